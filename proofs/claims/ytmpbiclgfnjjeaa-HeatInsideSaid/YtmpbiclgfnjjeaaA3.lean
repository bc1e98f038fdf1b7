/- A part of the proof: a small program logic, plain laws and contracts of functions, each proved by a walk through its operations. No condition but those that stand in each theorem. -/
import Derived.Test.YtmpbiclgfnjjeaaA2
import Derived.KernelRfl
import Derived.Test.YtmpbiclgfnjjeaaProg
/- The type table of this seat as instances; written by program. No condition. -/
namespace Go.X
open Go.Proofs
set_option maxRecDepth 10000
instance : Und Try.prog 0 (Go.TypeDesc.tuple #[]) := ⟨Try.runUnderlying0⟩
instance : IsAgg Try.prog 0 false := ⟨Try.isAgg0⟩
instance : TySize Try.prog 0 1 := ⟨Try.sizeOf0⟩
instance : TyBytes Try.prog 0 0 := ⟨_, Try.typeInfo0, rfl⟩
instance : Zero Try.prog 0 [(Go.Value.tuple #[])] := ⟨_, Try.zeroValue0, rfl⟩
instance : Und Try.prog 1 (Go.TypeDesc.func #[] #[] Bool.false) := ⟨Try.runUnderlying1⟩
instance : IsAgg Try.prog 1 false := ⟨Try.isAgg1⟩
instance : TySize Try.prog 1 1 := ⟨Try.sizeOf1⟩
instance : TyBytes Try.prog 1 8 := ⟨_, Try.typeInfo1, rfl⟩
instance : Zero Try.prog 1 [Go.Value.nilFunc] := ⟨_, Try.zeroValue1, rfl⟩
instance : Und Try.prog 2 (Go.TypeDesc.int Go.IntKind.i64) := ⟨Try.runUnderlying2⟩
instance : IsAgg Try.prog 2 false := ⟨Try.isAgg2⟩
instance : TySize Try.prog 2 1 := ⟨Try.sizeOf2⟩
instance : TyBytes Try.prog 2 8 := ⟨_, Try.typeInfo2, rfl⟩
instance : Zero Try.prog 2 [(Go.Value.int Go.IntKind.i64 0)] := ⟨_, Try.zeroValue2, rfl⟩
instance : Und Try.prog 3 (Go.TypeDesc.int Go.IntKind.i64) := ⟨Try.runUnderlying3⟩
instance : IsAgg Try.prog 3 false := ⟨Try.isAgg3⟩
instance : TySize Try.prog 3 1 := ⟨Try.sizeOf3⟩
instance : TyBytes Try.prog 3 8 := ⟨_, Try.typeInfo3, rfl⟩
instance : Zero Try.prog 3 [(Go.Value.int Go.IntKind.i64 0)] := ⟨_, Try.zeroValue3, rfl⟩
instance : Und Try.prog 4 Go.TypeDesc.bool := ⟨Try.runUnderlying4⟩
instance : IsAgg Try.prog 4 false := ⟨Try.isAgg4⟩
instance : TySize Try.prog 4 1 := ⟨Try.sizeOf4⟩
instance : TyBytes Try.prog 4 1 := ⟨_, Try.typeInfo4, rfl⟩
instance : Zero Try.prog 4 [(Go.Value.bool Bool.false)] := ⟨_, Try.zeroValue4, rfl⟩
instance : Und Try.prog 5 (Go.TypeDesc.int Go.IntKind.u8) := ⟨Try.runUnderlying5⟩
instance : IsAgg Try.prog 5 false := ⟨Try.isAgg5⟩
instance : TySize Try.prog 5 1 := ⟨Try.sizeOf5⟩
instance : TyBytes Try.prog 5 1 := ⟨_, Try.typeInfo5, rfl⟩
instance : Zero Try.prog 5 [(Go.Value.int Go.IntKind.u8 0)] := ⟨_, Try.zeroValue5, rfl⟩
instance : Und Try.prog 6 (Go.TypeDesc.int Go.IntKind.u8) := ⟨Try.runUnderlying6⟩
instance : IsAgg Try.prog 6 false := ⟨Try.isAgg6⟩
instance : TySize Try.prog 6 1 := ⟨Try.sizeOf6⟩
instance : TyBytes Try.prog 6 1 := ⟨_, Try.typeInfo6, rfl⟩
instance : Zero Try.prog 6 [(Go.Value.int Go.IntKind.u8 0)] := ⟨_, Try.zeroValue6, rfl⟩
instance : Und Try.prog 7 (Go.TypeDesc.struct #[(Go.Field.mk "x" 2 0 Bool.false "" "runtime" 0), (Go.Field.mk "y" 3 1 Bool.false "" "runtime" 8), (Go.Field.mk "signed" 4 2 Bool.false "" "runtime" 16), (Go.Field.mk "code" 6 3 Bool.false "" "runtime" 17)]) := ⟨Try.runUnderlying7⟩
instance : IsAgg Try.prog 7 true := ⟨Try.isAgg7⟩
instance : TySize Try.prog 7 4 := ⟨Try.sizeOf7⟩
instance : TyBytes Try.prog 7 24 := ⟨_, Try.typeInfo7, rfl⟩
instance : Zero Try.prog 7 [(Go.Value.int Go.IntKind.i64 0), (Go.Value.int Go.IntKind.i64 0), (Go.Value.bool Bool.false), (Go.Value.int Go.IntKind.u8 0)] := ⟨_, Try.zeroValue7, rfl⟩
instance : Fld Try.prog 7 0 0 := Fld.of (n := 1) ⟨Try.runUnderlying7⟩ rfl ⟨Try.sizeOf2⟩ (by decide) rfl
instance : Fld Try.prog 7 1 1 := Fld.of (n := 1) ⟨Try.runUnderlying7⟩ rfl ⟨Try.sizeOf3⟩ (by decide) rfl
instance : Fld Try.prog 7 2 2 := Fld.of (n := 1) ⟨Try.runUnderlying7⟩ rfl ⟨Try.sizeOf4⟩ (by decide) rfl
instance : Fld Try.prog 7 3 3 := Fld.of (n := 1) ⟨Try.runUnderlying7⟩ rfl ⟨Try.sizeOf6⟩ (by decide) rfl
instance : Places Try.prog 7 (fun i => ([(0, 1), (1, 1), (2, 1), (3, 1)] : List (Nat × Nat))[i]?) := Places.struct ⟨Try.runUnderlying7⟩ (.c Try.sizeOf2 (.c Try.sizeOf3 (.c Try.sizeOf4 (.c Try.sizeOf6 .n))))
instance : Und Try.prog 9 Go.TypeDesc.string := ⟨Try.runUnderlying9⟩
instance : IsAgg Try.prog 9 false := ⟨Try.isAgg9⟩
instance : TySize Try.prog 9 1 := ⟨Try.sizeOf9⟩
instance : TyBytes Try.prog 9 16 := ⟨_, Try.typeInfo9, rfl⟩
instance : Zero Try.prog 9 [(Go.Value.string (ByteArray.mk #[]))] := ⟨_, Try.zeroValue9, rfl⟩
instance : Und Try.prog 12 (Go.TypeDesc.int Go.IntKind.u64) := ⟨Try.runUnderlying12⟩
instance : IsAgg Try.prog 12 false := ⟨Try.isAgg12⟩
instance : TySize Try.prog 12 1 := ⟨Try.sizeOf12⟩
instance : TyBytes Try.prog 12 8 := ⟨_, Try.typeInfo12, rfl⟩
instance : Zero Try.prog 12 [(Go.Value.int Go.IntKind.u64 0)] := ⟨_, Try.zeroValue12, rfl⟩
instance : Und Try.prog 13 (Go.TypeDesc.struct #[(Go.Field.mk "msg" 9 0 Bool.false "" "runtime" 0), (Go.Field.mk "addr" 12 1 Bool.false "" "runtime" 16)]) := ⟨Try.runUnderlying13⟩
instance : IsAgg Try.prog 13 true := ⟨Try.isAgg13⟩
instance : TySize Try.prog 13 2 := ⟨Try.sizeOf13⟩
instance : TyBytes Try.prog 13 24 := ⟨_, Try.typeInfo13, rfl⟩
instance : Zero Try.prog 13 [(Go.Value.string (ByteArray.mk #[])), (Go.Value.int Go.IntKind.u64 0)] := ⟨_, Try.zeroValue13, rfl⟩
instance : Fld Try.prog 13 0 0 := Fld.of (n := 1) ⟨Try.runUnderlying13⟩ rfl ⟨Try.sizeOf9⟩ (by decide) rfl
instance : Fld Try.prog 13 1 1 := Fld.of (n := 1) ⟨Try.runUnderlying13⟩ rfl ⟨Try.sizeOf12⟩ (by decide) rfl
instance : Places Try.prog 13 (fun i => ([(0, 1), (1, 1)] : List (Nat × Nat))[i]?) := Places.struct ⟨Try.runUnderlying13⟩ (.c Try.sizeOf9 (.c Try.sizeOf12 .n))
instance : Und Try.prog 22 (Go.TypeDesc.slice 5) := ⟨Try.runUnderlying22⟩
instance : IsAgg Try.prog 22 false := ⟨Try.isAgg22⟩
instance : TySize Try.prog 22 1 := ⟨Try.sizeOf22⟩
instance : TyBytes Try.prog 22 24 := ⟨_, Try.typeInfo22, rfl⟩
instance : Zero Try.prog 22 [(Go.Value.slice none 0 0)] := ⟨_, Try.zeroValue22, rfl⟩
instance : Und Try.prog 23 (Go.TypeDesc.int Go.IntKind.u16) := ⟨Try.runUnderlying23⟩
instance : IsAgg Try.prog 23 false := ⟨Try.isAgg23⟩
instance : TySize Try.prog 23 1 := ⟨Try.sizeOf23⟩
instance : TyBytes Try.prog 23 2 := ⟨_, Try.typeInfo23, rfl⟩
instance : Zero Try.prog 23 [(Go.Value.int Go.IntKind.u16 0)] := ⟨_, Try.zeroValue23, rfl⟩
instance : Und Try.prog 24 (Go.TypeDesc.slice 48) := ⟨Try.runUnderlying24⟩
instance : IsAgg Try.prog 24 false := ⟨Try.isAgg24⟩
instance : TySize Try.prog 24 1 := ⟨Try.sizeOf24⟩
instance : TyBytes Try.prog 24 24 := ⟨_, Try.typeInfo24, rfl⟩
instance : Zero Try.prog 24 [(Go.Value.slice none 0 0)] := ⟨_, Try.zeroValue24, rfl⟩
instance : Und Try.prog 25 (Go.TypeDesc.slice 50) := ⟨Try.runUnderlying25⟩
instance : IsAgg Try.prog 25 false := ⟨Try.isAgg25⟩
instance : TySize Try.prog 25 1 := ⟨Try.sizeOf25⟩
instance : TyBytes Try.prog 25 24 := ⟨_, Try.typeInfo25, rfl⟩
instance : Zero Try.prog 25 [(Go.Value.slice none 0 0)] := ⟨_, Try.zeroValue25, rfl⟩
instance : Und Try.prog 26 (Go.TypeDesc.slice 38) := ⟨Try.runUnderlying26⟩
instance : IsAgg Try.prog 26 false := ⟨Try.isAgg26⟩
instance : TySize Try.prog 26 1 := ⟨Try.sizeOf26⟩
instance : TyBytes Try.prog 26 24 := ⟨_, Try.typeInfo26, rfl⟩
instance : Zero Try.prog 26 [(Go.Value.slice none 0 0)] := ⟨_, Try.zeroValue26, rfl⟩
instance : Und Try.prog 27 (Go.TypeDesc.slice 52) := ⟨Try.runUnderlying27⟩
instance : IsAgg Try.prog 27 false := ⟨Try.isAgg27⟩
instance : TySize Try.prog 27 1 := ⟨Try.sizeOf27⟩
instance : TyBytes Try.prog 27 24 := ⟨_, Try.typeInfo27, rfl⟩
instance : Zero Try.prog 27 [(Go.Value.slice none 0 0)] := ⟨_, Try.zeroValue27, rfl⟩
instance : Und Try.prog 29 (Go.TypeDesc.struct #[(Go.Field.mk "Rooms" 24 0 Bool.false "" "" 0), (Go.Field.mk "Walls" 25 1 Bool.false "" "" 24), (Go.Field.mk "Branches" 26 2 Bool.false "" "" 48), (Go.Field.mk "Coolers" 27 3 Bool.false "" "" 72)]) := ⟨Try.runUnderlying29⟩
instance : IsAgg Try.prog 29 true := ⟨Try.isAgg29⟩
instance : TySize Try.prog 29 4 := ⟨Try.sizeOf29⟩
instance : TyBytes Try.prog 29 96 := ⟨_, Try.typeInfo29, rfl⟩
instance : Zero Try.prog 29 [(Go.Value.slice none 0 0), (Go.Value.slice none 0 0), (Go.Value.slice none 0 0), (Go.Value.slice none 0 0)] := ⟨_, Try.zeroValue29, rfl⟩
instance : Fld Try.prog 29 0 0 := Fld.of (n := 1) ⟨Try.runUnderlying29⟩ rfl ⟨Try.sizeOf24⟩ (by decide) rfl
instance : Fld Try.prog 29 1 1 := Fld.of (n := 1) ⟨Try.runUnderlying29⟩ rfl ⟨Try.sizeOf25⟩ (by decide) rfl
instance : Fld Try.prog 29 2 2 := Fld.of (n := 1) ⟨Try.runUnderlying29⟩ rfl ⟨Try.sizeOf26⟩ (by decide) rfl
instance : Fld Try.prog 29 3 3 := Fld.of (n := 1) ⟨Try.runUnderlying29⟩ rfl ⟨Try.sizeOf27⟩ (by decide) rfl
instance : Places Try.prog 29 (fun i => ([(0, 1), (1, 1), (2, 1), (3, 1)] : List (Nat × Nat))[i]?) := Places.struct ⟨Try.runUnderlying29⟩ (.c Try.sizeOf24 (.c Try.sizeOf25 (.c Try.sizeOf26 (.c Try.sizeOf27 .n))))
instance : Und Try.prog 31 (Go.TypeDesc.slice 3) := ⟨Try.runUnderlying31⟩
instance : IsAgg Try.prog 31 false := ⟨Try.isAgg31⟩
instance : TySize Try.prog 31 1 := ⟨Try.sizeOf31⟩
instance : TyBytes Try.prog 31 24 := ⟨_, Try.typeInfo31, rfl⟩
instance : Zero Try.prog 31 [(Go.Value.slice none 0 0)] := ⟨_, Try.zeroValue31, rfl⟩
instance : Und Try.prog 32 (Go.TypeDesc.int Go.IntKind.i64) := ⟨Try.runUnderlying32⟩
instance : IsAgg Try.prog 32 false := ⟨Try.isAgg32⟩
instance : TySize Try.prog 32 1 := ⟨Try.sizeOf32⟩
instance : TyBytes Try.prog 32 8 := ⟨_, Try.typeInfo32, rfl⟩
instance : Zero Try.prog 32 [(Go.Value.int Go.IntKind.i64 0)] := ⟨_, Try.zeroValue32, rfl⟩
instance : Und Try.prog 38 (Go.TypeDesc.struct #[(Go.Field.mk "Up" 3 0 Bool.false "" "" 0), (Go.Field.mk "Open" 3 1 Bool.false "" "" 8), (Go.Field.mk "Leak" 3 2 Bool.false "" "" 16)]) := ⟨Try.runUnderlying38⟩
instance : IsAgg Try.prog 38 true := ⟨Try.isAgg38⟩
instance : TySize Try.prog 38 3 := ⟨Try.sizeOf38⟩
instance : TyBytes Try.prog 38 24 := ⟨_, Try.typeInfo38, rfl⟩
instance : Zero Try.prog 38 [(Go.Value.int Go.IntKind.i64 0), (Go.Value.int Go.IntKind.i64 0), (Go.Value.int Go.IntKind.i64 0)] := ⟨_, Try.zeroValue38, rfl⟩
instance : Fld Try.prog 38 0 0 := Fld.of (n := 1) ⟨Try.runUnderlying38⟩ rfl ⟨Try.sizeOf3⟩ (by decide) rfl
instance : Fld Try.prog 38 1 1 := Fld.of (n := 1) ⟨Try.runUnderlying38⟩ rfl ⟨Try.sizeOf3⟩ (by decide) rfl
instance : Fld Try.prog 38 2 2 := Fld.of (n := 1) ⟨Try.runUnderlying38⟩ rfl ⟨Try.sizeOf3⟩ (by decide) rfl
instance : Places Try.prog 38 (fun i => ([(0, 1), (1, 1), (2, 1)] : List (Nat × Nat))[i]?) := Places.struct ⟨Try.runUnderlying38⟩ (.c Try.sizeOf3 (.c Try.sizeOf3 (.c Try.sizeOf3 .n)))
instance : Und Try.prog 43 (Go.TypeDesc.struct #[(Go.Field.mk "Load" 31 0 Bool.false "" "" 0), (Go.Field.mk "Out" 3 1 Bool.false "" "" 24), (Go.Field.mk "Pump" 3 2 Bool.false "" "" 32)]) := ⟨Try.runUnderlying43⟩
instance : IsAgg Try.prog 43 true := ⟨Try.isAgg43⟩
instance : TySize Try.prog 43 3 := ⟨Try.sizeOf43⟩
instance : TyBytes Try.prog 43 40 := ⟨_, Try.typeInfo43, rfl⟩
instance : Zero Try.prog 43 [(Go.Value.slice none 0 0), (Go.Value.int Go.IntKind.i64 0), (Go.Value.int Go.IntKind.i64 0)] := ⟨_, Try.zeroValue43, rfl⟩
instance : Fld Try.prog 43 0 0 := Fld.of (n := 1) ⟨Try.runUnderlying43⟩ rfl ⟨Try.sizeOf31⟩ (by decide) rfl
instance : Fld Try.prog 43 1 1 := Fld.of (n := 1) ⟨Try.runUnderlying43⟩ rfl ⟨Try.sizeOf3⟩ (by decide) rfl
instance : Fld Try.prog 43 2 2 := Fld.of (n := 1) ⟨Try.runUnderlying43⟩ rfl ⟨Try.sizeOf3⟩ (by decide) rfl
instance : Places Try.prog 43 (fun i => ([(0, 1), (1, 1), (2, 1)] : List (Nat × Nat))[i]?) := Places.struct ⟨Try.runUnderlying43⟩ (.c Try.sizeOf31 (.c Try.sizeOf3 (.c Try.sizeOf3 .n)))
instance : Und Try.prog 48 (Go.TypeDesc.struct #[(Go.Field.mk "Store" 3 0 Bool.false "" "" 0), (Go.Field.mk "Limit" 3 1 Bool.false "" "" 8)]) := ⟨Try.runUnderlying48⟩
instance : IsAgg Try.prog 48 true := ⟨Try.isAgg48⟩
instance : TySize Try.prog 48 2 := ⟨Try.sizeOf48⟩
instance : TyBytes Try.prog 48 16 := ⟨_, Try.typeInfo48, rfl⟩
instance : Zero Try.prog 48 [(Go.Value.int Go.IntKind.i64 0), (Go.Value.int Go.IntKind.i64 0)] := ⟨_, Try.zeroValue48, rfl⟩
instance : Fld Try.prog 48 0 0 := Fld.of (n := 1) ⟨Try.runUnderlying48⟩ rfl ⟨Try.sizeOf3⟩ (by decide) rfl
instance : Fld Try.prog 48 1 1 := Fld.of (n := 1) ⟨Try.runUnderlying48⟩ rfl ⟨Try.sizeOf3⟩ (by decide) rfl
instance : Places Try.prog 48 (fun i => ([(0, 1), (1, 1)] : List (Nat × Nat))[i]?) := Places.struct ⟨Try.runUnderlying48⟩ (.c Try.sizeOf3 (.c Try.sizeOf3 .n))
instance : Und Try.prog 50 (Go.TypeDesc.struct #[(Go.Field.mk "A" 3 0 Bool.false "" "" 0), (Go.Field.mk "B" 3 1 Bool.false "" "" 8), (Go.Field.mk "Pass" 3 2 Bool.false "" "" 16)]) := ⟨Try.runUnderlying50⟩
instance : IsAgg Try.prog 50 true := ⟨Try.isAgg50⟩
instance : TySize Try.prog 50 3 := ⟨Try.sizeOf50⟩
instance : TyBytes Try.prog 50 24 := ⟨_, Try.typeInfo50, rfl⟩
instance : Zero Try.prog 50 [(Go.Value.int Go.IntKind.i64 0), (Go.Value.int Go.IntKind.i64 0), (Go.Value.int Go.IntKind.i64 0)] := ⟨_, Try.zeroValue50, rfl⟩
instance : Fld Try.prog 50 0 0 := Fld.of (n := 1) ⟨Try.runUnderlying50⟩ rfl ⟨Try.sizeOf3⟩ (by decide) rfl
instance : Fld Try.prog 50 1 1 := Fld.of (n := 1) ⟨Try.runUnderlying50⟩ rfl ⟨Try.sizeOf3⟩ (by decide) rfl
instance : Fld Try.prog 50 2 2 := Fld.of (n := 1) ⟨Try.runUnderlying50⟩ rfl ⟨Try.sizeOf3⟩ (by decide) rfl
instance : Places Try.prog 50 (fun i => ([(0, 1), (1, 1), (2, 1)] : List (Nat × Nat))[i]?) := Places.struct ⟨Try.runUnderlying50⟩ (.c Try.sizeOf3 (.c Try.sizeOf3 (.c Try.sizeOf3 .n)))
instance : Und Try.prog 52 (Go.TypeDesc.struct #[(Go.Field.mk "Room" 3 0 Bool.false "" "" 0), (Go.Field.mk "Branch" 3 1 Bool.false "" "" 8), (Go.Field.mk "Gain" 3 2 Bool.false "" "" 16), (Go.Field.mk "Carry" 3 3 Bool.false "" "" 24), (Go.Field.mk "Supply" 3 4 Bool.false "" "" 32)]) := ⟨Try.runUnderlying52⟩
instance : IsAgg Try.prog 52 true := ⟨Try.isAgg52⟩
instance : TySize Try.prog 52 5 := ⟨Try.sizeOf52⟩
instance : TyBytes Try.prog 52 40 := ⟨_, Try.typeInfo52, rfl⟩
instance : Zero Try.prog 52 [(Go.Value.int Go.IntKind.i64 0), (Go.Value.int Go.IntKind.i64 0), (Go.Value.int Go.IntKind.i64 0), (Go.Value.int Go.IntKind.i64 0), (Go.Value.int Go.IntKind.i64 0)] := ⟨_, Try.zeroValue52, rfl⟩
instance : Fld Try.prog 52 0 0 := Fld.of (n := 1) ⟨Try.runUnderlying52⟩ rfl ⟨Try.sizeOf3⟩ (by decide) rfl
instance : Fld Try.prog 52 1 1 := Fld.of (n := 1) ⟨Try.runUnderlying52⟩ rfl ⟨Try.sizeOf3⟩ (by decide) rfl
instance : Fld Try.prog 52 2 2 := Fld.of (n := 1) ⟨Try.runUnderlying52⟩ rfl ⟨Try.sizeOf3⟩ (by decide) rfl
instance : Fld Try.prog 52 3 3 := Fld.of (n := 1) ⟨Try.runUnderlying52⟩ rfl ⟨Try.sizeOf3⟩ (by decide) rfl
instance : Fld Try.prog 52 4 4 := Fld.of (n := 1) ⟨Try.runUnderlying52⟩ rfl ⟨Try.sizeOf3⟩ (by decide) rfl
instance : Places Try.prog 52 (fun i => ([(0, 1), (1, 1), (2, 1), (3, 1), (4, 1)] : List (Nat × Nat))[i]?) := Places.struct ⟨Try.runUnderlying52⟩ (.c Try.sizeOf3 (.c Try.sizeOf3 (.c Try.sizeOf3 (.c Try.sizeOf3 (.c Try.sizeOf3 .n)))))
instance : Und Try.prog 57 (Go.TypeDesc.struct #[(Go.Field.mk "Low" 43 0 Bool.false "" "" 0), (Go.Field.mk "High" 43 3 Bool.false "" "" 40)]) := ⟨Try.runUnderlying57⟩
instance : IsAgg Try.prog 57 true := ⟨Try.isAgg57⟩
instance : TySize Try.prog 57 6 := ⟨Try.sizeOf57⟩
instance : TyBytes Try.prog 57 80 := ⟨_, Try.typeInfo57, rfl⟩
instance : Zero Try.prog 57 [(Go.Value.slice none 0 0), (Go.Value.int Go.IntKind.i64 0), (Go.Value.int Go.IntKind.i64 0), (Go.Value.slice none 0 0), (Go.Value.int Go.IntKind.i64 0), (Go.Value.int Go.IntKind.i64 0)] := ⟨_, Try.zeroValue57, rfl⟩
instance : Fld Try.prog 57 0 0 := Fld.of (n := 3) ⟨Try.runUnderlying57⟩ rfl ⟨Try.sizeOf43⟩ (by decide) rfl
instance : Fld Try.prog 57 1 3 := Fld.of (n := 3) ⟨Try.runUnderlying57⟩ rfl ⟨Try.sizeOf43⟩ (by decide) rfl
instance : Places Try.prog 57 (fun i => ([(0, 3), (3, 3)] : List (Nat × Nat))[i]?) := Places.struct ⟨Try.runUnderlying57⟩ (.c Try.sizeOf43 (.c Try.sizeOf43 .n))
instance : Und Try.prog 69 (Go.TypeDesc.slice 123) := ⟨Try.runUnderlying69⟩
instance : IsAgg Try.prog 69 false := ⟨Try.isAgg69⟩
instance : TySize Try.prog 69 1 := ⟨Try.sizeOf69⟩
instance : TyBytes Try.prog 69 24 := ⟨_, Try.typeInfo69, rfl⟩
instance : Zero Try.prog 69 [(Go.Value.slice none 0 0)] := ⟨_, Try.zeroValue69, rfl⟩
instance : Und Try.prog 70 (Go.TypeDesc.slice 124) := ⟨Try.runUnderlying70⟩
instance : IsAgg Try.prog 70 false := ⟨Try.isAgg70⟩
instance : TySize Try.prog 70 1 := ⟨Try.sizeOf70⟩
instance : TyBytes Try.prog 70 24 := ⟨_, Try.typeInfo70, rfl⟩
instance : Zero Try.prog 70 [(Go.Value.slice none 0 0)] := ⟨_, Try.zeroValue70, rfl⟩
instance : Und Try.prog 71 (Go.TypeDesc.slice 125) := ⟨Try.runUnderlying71⟩
instance : IsAgg Try.prog 71 false := ⟨Try.isAgg71⟩
instance : TySize Try.prog 71 1 := ⟨Try.sizeOf71⟩
instance : TyBytes Try.prog 71 24 := ⟨_, Try.typeInfo71, rfl⟩
instance : Zero Try.prog 71 [(Go.Value.slice none 0 0)] := ⟨_, Try.zeroValue71, rfl⟩
instance : Und Try.prog 72 (Go.TypeDesc.slice 126) := ⟨Try.runUnderlying72⟩
instance : IsAgg Try.prog 72 false := ⟨Try.isAgg72⟩
instance : TySize Try.prog 72 1 := ⟨Try.sizeOf72⟩
instance : TyBytes Try.prog 72 24 := ⟨_, Try.typeInfo72, rfl⟩
instance : Zero Try.prog 72 [(Go.Value.slice none 0 0)] := ⟨_, Try.zeroValue72, rfl⟩
instance : Und Try.prog 74 (Go.TypeDesc.struct #[(Go.Field.mk "Rooms" 69 0 Bool.false "" "" 0), (Go.Field.mk "Walls" 70 1 Bool.false "" "" 24), (Go.Field.mk "Branches" 71 2 Bool.false "" "" 48), (Go.Field.mk "Coolers" 72 3 Bool.false "" "" 72)]) := ⟨Try.runUnderlying74⟩
instance : IsAgg Try.prog 74 true := ⟨Try.isAgg74⟩
instance : TySize Try.prog 74 4 := ⟨Try.sizeOf74⟩
instance : TyBytes Try.prog 74 96 := ⟨_, Try.typeInfo74, rfl⟩
instance : Zero Try.prog 74 [(Go.Value.slice none 0 0), (Go.Value.slice none 0 0), (Go.Value.slice none 0 0), (Go.Value.slice none 0 0)] := ⟨_, Try.zeroValue74, rfl⟩
instance : Fld Try.prog 74 0 0 := Fld.of (n := 1) ⟨Try.runUnderlying74⟩ rfl ⟨Try.sizeOf69⟩ (by decide) rfl
instance : Fld Try.prog 74 1 1 := Fld.of (n := 1) ⟨Try.runUnderlying74⟩ rfl ⟨Try.sizeOf70⟩ (by decide) rfl
instance : Fld Try.prog 74 2 2 := Fld.of (n := 1) ⟨Try.runUnderlying74⟩ rfl ⟨Try.sizeOf71⟩ (by decide) rfl
instance : Fld Try.prog 74 3 3 := Fld.of (n := 1) ⟨Try.runUnderlying74⟩ rfl ⟨Try.sizeOf72⟩ (by decide) rfl
instance : Places Try.prog 74 (fun i => ([(0, 1), (1, 1), (2, 1), (3, 1)] : List (Nat × Nat))[i]?) := Places.struct ⟨Try.runUnderlying74⟩ (.c Try.sizeOf69 (.c Try.sizeOf70 (.c Try.sizeOf71 (.c Try.sizeOf72 .n))))
instance : Und Try.prog 77 (Go.TypeDesc.pointer 3) := ⟨Try.runUnderlying77⟩
instance : IsAgg Try.prog 77 false := ⟨Try.isAgg77⟩
instance : TySize Try.prog 77 1 := ⟨Try.sizeOf77⟩
instance : TyBytes Try.prog 77 8 := ⟨_, Try.typeInfo77, rfl⟩
instance : Zero Try.prog 77 [(Go.Value.pointer none)] := ⟨_, Try.zeroValue77, rfl⟩
instance : Und Try.prog 78 (Go.TypeDesc.slice 77) := ⟨Try.runUnderlying78⟩
instance : IsAgg Try.prog 78 false := ⟨Try.isAgg78⟩
instance : TySize Try.prog 78 1 := ⟨Try.sizeOf78⟩
instance : TyBytes Try.prog 78 24 := ⟨_, Try.typeInfo78, rfl⟩
instance : Zero Try.prog 78 [(Go.Value.slice none 0 0)] := ⟨_, Try.zeroValue78, rfl⟩
instance : Und Try.prog 80 (Go.TypeDesc.slice 43) := ⟨Try.runUnderlying80⟩
instance : IsAgg Try.prog 80 false := ⟨Try.isAgg80⟩
instance : TySize Try.prog 80 1 := ⟨Try.sizeOf80⟩
instance : TyBytes Try.prog 80 24 := ⟨_, Try.typeInfo80, rfl⟩
instance : Zero Try.prog 80 [(Go.Value.slice none 0 0)] := ⟨_, Try.zeroValue80, rfl⟩
instance : Und Try.prog 82 (Go.TypeDesc.struct #[(Go.Field.mk "Load" 31 0 Bool.false "" "" 0), (Go.Field.mk "Out" 3 1 Bool.false "" "" 24), (Go.Field.mk "Pump" 3 2 Bool.false "" "" 32)]) := ⟨Try.runUnderlying82⟩
instance : IsAgg Try.prog 82 true := ⟨Try.isAgg82⟩
instance : TySize Try.prog 82 3 := ⟨Try.sizeOf82⟩
instance : TyBytes Try.prog 82 40 := ⟨_, Try.typeInfo82, rfl⟩
instance : Zero Try.prog 82 [(Go.Value.slice none 0 0), (Go.Value.int Go.IntKind.i64 0), (Go.Value.int Go.IntKind.i64 0)] := ⟨_, Try.zeroValue82, rfl⟩
instance : Fld Try.prog 82 0 0 := Fld.of (n := 1) ⟨Try.runUnderlying82⟩ rfl ⟨Try.sizeOf31⟩ (by decide) rfl
instance : Fld Try.prog 82 1 1 := Fld.of (n := 1) ⟨Try.runUnderlying82⟩ rfl ⟨Try.sizeOf3⟩ (by decide) rfl
instance : Fld Try.prog 82 2 2 := Fld.of (n := 1) ⟨Try.runUnderlying82⟩ rfl ⟨Try.sizeOf3⟩ (by decide) rfl
instance : Places Try.prog 82 (fun i => ([(0, 1), (1, 1), (2, 1)] : List (Nat × Nat))[i]?) := Places.struct ⟨Try.runUnderlying82⟩ (.c Try.sizeOf31 (.c Try.sizeOf3 (.c Try.sizeOf3 .n)))
instance : Und Try.prog 85 (Go.TypeDesc.slice 29) := ⟨Try.runUnderlying85⟩
instance : IsAgg Try.prog 85 false := ⟨Try.isAgg85⟩
instance : TySize Try.prog 85 1 := ⟨Try.sizeOf85⟩
instance : TyBytes Try.prog 85 24 := ⟨_, Try.typeInfo85, rfl⟩
instance : Zero Try.prog 85 [(Go.Value.slice none 0 0)] := ⟨_, Try.zeroValue85, rfl⟩
instance : Und Try.prog 86 (Go.TypeDesc.slice 31) := ⟨Try.runUnderlying86⟩
instance : IsAgg Try.prog 86 false := ⟨Try.isAgg86⟩
instance : TySize Try.prog 86 1 := ⟨Try.sizeOf86⟩
instance : TyBytes Try.prog 86 24 := ⟨_, Try.typeInfo86, rfl⟩
instance : Zero Try.prog 86 [(Go.Value.slice none 0 0)] := ⟨_, Try.zeroValue86, rfl⟩
instance : Und Try.prog 89 (Go.TypeDesc.slice 22) := ⟨Try.runUnderlying89⟩
instance : IsAgg Try.prog 89 false := ⟨Try.isAgg89⟩
instance : TySize Try.prog 89 1 := ⟨Try.sizeOf89⟩
instance : TyBytes Try.prog 89 24 := ⟨_, Try.typeInfo89, rfl⟩
instance : Zero Try.prog 89 [(Go.Value.slice none 0 0)] := ⟨_, Try.zeroValue89, rfl⟩
instance : Und Try.prog 97 (Go.TypeDesc.pointer 99) := ⟨Try.runUnderlying97⟩
instance : IsAgg Try.prog 97 false := ⟨Try.isAgg97⟩
instance : TySize Try.prog 97 1 := ⟨Try.sizeOf97⟩
instance : TyBytes Try.prog 97 8 := ⟨_, Try.typeInfo97, rfl⟩
instance : Zero Try.prog 97 [(Go.Value.pointer none)] := ⟨_, Try.zeroValue97, rfl⟩
instance : Und Try.prog 99 (Go.TypeDesc.struct #[(Go.Field.mk "l" 22 0 Bool.false "" "switchgear/switchgearlaw07" 0), (Go.Field.mk "i" 3 1 Bool.false "" "switchgear/switchgearlaw07" 24)]) := ⟨Try.runUnderlying99⟩
instance : IsAgg Try.prog 99 true := ⟨Try.isAgg99⟩
instance : TySize Try.prog 99 2 := ⟨Try.sizeOf99⟩
instance : TyBytes Try.prog 99 32 := ⟨_, Try.typeInfo99, rfl⟩
instance : Zero Try.prog 99 [(Go.Value.slice none 0 0), (Go.Value.int Go.IntKind.i64 0)] := ⟨_, Try.zeroValue99, rfl⟩
instance : Fld Try.prog 99 0 0 := Fld.of (n := 1) ⟨Try.runUnderlying99⟩ rfl ⟨Try.sizeOf22⟩ (by decide) rfl
instance : Fld Try.prog 99 1 1 := Fld.of (n := 1) ⟨Try.runUnderlying99⟩ rfl ⟨Try.sizeOf3⟩ (by decide) rfl
instance : Places Try.prog 99 (fun i => ([(0, 1), (1, 1)] : List (Nat × Nat))[i]?) := Places.struct ⟨Try.runUnderlying99⟩ (.c Try.sizeOf22 (.c Try.sizeOf3 .n))
instance : Und Try.prog 100 (Go.TypeDesc.func #[3] #[3] Bool.false) := ⟨Try.runUnderlying100⟩
instance : IsAgg Try.prog 100 false := ⟨Try.isAgg100⟩
instance : TySize Try.prog 100 1 := ⟨Try.sizeOf100⟩
instance : TyBytes Try.prog 100 8 := ⟨_, Try.typeInfo100, rfl⟩
instance : Zero Try.prog 100 [Go.Value.nilFunc] := ⟨_, Try.zeroValue100, rfl⟩
instance : Und Try.prog 109 (Go.TypeDesc.struct #[(Go.Field.mk "Hall" 29 0 Bool.true "" "" 0), (Go.Field.mk "Case" 43 4 Bool.true "" "" 96), (Go.Field.mk "t" 31 7 Bool.false "" "switchgear/heat" 136), (Go.Field.mk "taken" 31 8 Bool.false "" "switchgear/heat" 160)]) := ⟨Try.runUnderlying109⟩
instance : IsAgg Try.prog 109 true := ⟨Try.isAgg109⟩
instance : TySize Try.prog 109 9 := ⟨Try.sizeOf109⟩
instance : TyBytes Try.prog 109 184 := ⟨_, Try.typeInfo109, rfl⟩
instance : Zero Try.prog 109 [(Go.Value.slice none 0 0), (Go.Value.slice none 0 0), (Go.Value.slice none 0 0), (Go.Value.slice none 0 0), (Go.Value.slice none 0 0), (Go.Value.int Go.IntKind.i64 0), (Go.Value.int Go.IntKind.i64 0), (Go.Value.slice none 0 0), (Go.Value.slice none 0 0)] := ⟨_, Try.zeroValue109, rfl⟩
instance : Fld Try.prog 109 0 0 := Fld.of (n := 4) ⟨Try.runUnderlying109⟩ rfl ⟨Try.sizeOf29⟩ (by decide) rfl
instance : Fld Try.prog 109 1 4 := Fld.of (n := 3) ⟨Try.runUnderlying109⟩ rfl ⟨Try.sizeOf43⟩ (by decide) rfl
instance : Fld Try.prog 109 2 7 := Fld.of (n := 1) ⟨Try.runUnderlying109⟩ rfl ⟨Try.sizeOf31⟩ (by decide) rfl
instance : Fld Try.prog 109 3 8 := Fld.of (n := 1) ⟨Try.runUnderlying109⟩ rfl ⟨Try.sizeOf31⟩ (by decide) rfl
instance : Places Try.prog 109 (fun i => ([(0, 4), (4, 3), (7, 1), (8, 1)] : List (Nat × Nat))[i]?) := Places.struct ⟨Try.runUnderlying109⟩ (.c Try.sizeOf29 (.c Try.sizeOf43 (.c Try.sizeOf31 (.c Try.sizeOf31 .n))))
instance : Und Try.prog 115 (Go.TypeDesc.func #[3] #[43] Bool.false) := ⟨Try.runUnderlying115⟩
instance : IsAgg Try.prog 115 false := ⟨Try.isAgg115⟩
instance : TySize Try.prog 115 1 := ⟨Try.sizeOf115⟩
instance : TyBytes Try.prog 115 8 := ⟨_, Try.typeInfo115, rfl⟩
instance : Zero Try.prog 115 [Go.Value.nilFunc] := ⟨_, Try.zeroValue115, rfl⟩
instance : Und Try.prog 123 (Go.TypeDesc.struct #[(Go.Field.mk "Store" 3 0 Bool.false "" "" 0), (Go.Field.mk "Limit" 3 1 Bool.false "" "" 8)]) := ⟨Try.runUnderlying123⟩
instance : IsAgg Try.prog 123 true := ⟨Try.isAgg123⟩
instance : TySize Try.prog 123 2 := ⟨Try.sizeOf123⟩
instance : TyBytes Try.prog 123 16 := ⟨_, Try.typeInfo123, rfl⟩
instance : Zero Try.prog 123 [(Go.Value.int Go.IntKind.i64 0), (Go.Value.int Go.IntKind.i64 0)] := ⟨_, Try.zeroValue123, rfl⟩
instance : Fld Try.prog 123 0 0 := Fld.of (n := 1) ⟨Try.runUnderlying123⟩ rfl ⟨Try.sizeOf3⟩ (by decide) rfl
instance : Fld Try.prog 123 1 1 := Fld.of (n := 1) ⟨Try.runUnderlying123⟩ rfl ⟨Try.sizeOf3⟩ (by decide) rfl
instance : Places Try.prog 123 (fun i => ([(0, 1), (1, 1)] : List (Nat × Nat))[i]?) := Places.struct ⟨Try.runUnderlying123⟩ (.c Try.sizeOf3 (.c Try.sizeOf3 .n))
instance : Und Try.prog 124 (Go.TypeDesc.struct #[(Go.Field.mk "A" 3 0 Bool.false "" "" 0), (Go.Field.mk "B" 3 1 Bool.false "" "" 8), (Go.Field.mk "Pass" 3 2 Bool.false "" "" 16)]) := ⟨Try.runUnderlying124⟩
instance : IsAgg Try.prog 124 true := ⟨Try.isAgg124⟩
instance : TySize Try.prog 124 3 := ⟨Try.sizeOf124⟩
instance : TyBytes Try.prog 124 24 := ⟨_, Try.typeInfo124, rfl⟩
instance : Zero Try.prog 124 [(Go.Value.int Go.IntKind.i64 0), (Go.Value.int Go.IntKind.i64 0), (Go.Value.int Go.IntKind.i64 0)] := ⟨_, Try.zeroValue124, rfl⟩
instance : Fld Try.prog 124 0 0 := Fld.of (n := 1) ⟨Try.runUnderlying124⟩ rfl ⟨Try.sizeOf3⟩ (by decide) rfl
instance : Fld Try.prog 124 1 1 := Fld.of (n := 1) ⟨Try.runUnderlying124⟩ rfl ⟨Try.sizeOf3⟩ (by decide) rfl
instance : Fld Try.prog 124 2 2 := Fld.of (n := 1) ⟨Try.runUnderlying124⟩ rfl ⟨Try.sizeOf3⟩ (by decide) rfl
instance : Places Try.prog 124 (fun i => ([(0, 1), (1, 1), (2, 1)] : List (Nat × Nat))[i]?) := Places.struct ⟨Try.runUnderlying124⟩ (.c Try.sizeOf3 (.c Try.sizeOf3 (.c Try.sizeOf3 .n)))
instance : Und Try.prog 125 (Go.TypeDesc.struct #[(Go.Field.mk "Up" 3 0 Bool.false "" "" 0), (Go.Field.mk "Open" 3 1 Bool.false "" "" 8), (Go.Field.mk "Leak" 3 2 Bool.false "" "" 16)]) := ⟨Try.runUnderlying125⟩
instance : IsAgg Try.prog 125 true := ⟨Try.isAgg125⟩
instance : TySize Try.prog 125 3 := ⟨Try.sizeOf125⟩
instance : TyBytes Try.prog 125 24 := ⟨_, Try.typeInfo125, rfl⟩
instance : Zero Try.prog 125 [(Go.Value.int Go.IntKind.i64 0), (Go.Value.int Go.IntKind.i64 0), (Go.Value.int Go.IntKind.i64 0)] := ⟨_, Try.zeroValue125, rfl⟩
instance : Fld Try.prog 125 0 0 := Fld.of (n := 1) ⟨Try.runUnderlying125⟩ rfl ⟨Try.sizeOf3⟩ (by decide) rfl
instance : Fld Try.prog 125 1 1 := Fld.of (n := 1) ⟨Try.runUnderlying125⟩ rfl ⟨Try.sizeOf3⟩ (by decide) rfl
instance : Fld Try.prog 125 2 2 := Fld.of (n := 1) ⟨Try.runUnderlying125⟩ rfl ⟨Try.sizeOf3⟩ (by decide) rfl
instance : Places Try.prog 125 (fun i => ([(0, 1), (1, 1), (2, 1)] : List (Nat × Nat))[i]?) := Places.struct ⟨Try.runUnderlying125⟩ (.c Try.sizeOf3 (.c Try.sizeOf3 (.c Try.sizeOf3 .n)))
instance : Und Try.prog 126 (Go.TypeDesc.struct #[(Go.Field.mk "Room" 3 0 Bool.false "" "" 0), (Go.Field.mk "Branch" 3 1 Bool.false "" "" 8), (Go.Field.mk "Gain" 3 2 Bool.false "" "" 16), (Go.Field.mk "Carry" 3 3 Bool.false "" "" 24), (Go.Field.mk "Supply" 3 4 Bool.false "" "" 32)]) := ⟨Try.runUnderlying126⟩
instance : IsAgg Try.prog 126 true := ⟨Try.isAgg126⟩
instance : TySize Try.prog 126 5 := ⟨Try.sizeOf126⟩
instance : TyBytes Try.prog 126 40 := ⟨_, Try.typeInfo126, rfl⟩
instance : Zero Try.prog 126 [(Go.Value.int Go.IntKind.i64 0), (Go.Value.int Go.IntKind.i64 0), (Go.Value.int Go.IntKind.i64 0), (Go.Value.int Go.IntKind.i64 0), (Go.Value.int Go.IntKind.i64 0)] := ⟨_, Try.zeroValue126, rfl⟩
instance : Fld Try.prog 126 0 0 := Fld.of (n := 1) ⟨Try.runUnderlying126⟩ rfl ⟨Try.sizeOf3⟩ (by decide) rfl
instance : Fld Try.prog 126 1 1 := Fld.of (n := 1) ⟨Try.runUnderlying126⟩ rfl ⟨Try.sizeOf3⟩ (by decide) rfl
instance : Fld Try.prog 126 2 2 := Fld.of (n := 1) ⟨Try.runUnderlying126⟩ rfl ⟨Try.sizeOf3⟩ (by decide) rfl
instance : Fld Try.prog 126 3 3 := Fld.of (n := 1) ⟨Try.runUnderlying126⟩ rfl ⟨Try.sizeOf3⟩ (by decide) rfl
instance : Fld Try.prog 126 4 4 := Fld.of (n := 1) ⟨Try.runUnderlying126⟩ rfl ⟨Try.sizeOf3⟩ (by decide) rfl
instance : Places Try.prog 126 (fun i => ([(0, 1), (1, 1), (2, 1), (3, 1), (4, 1)] : List (Nat × Nat))[i]?) := Places.struct ⟨Try.runUnderlying126⟩ (.c Try.sizeOf3 (.c Try.sizeOf3 (.c Try.sizeOf3 (.c Try.sizeOf3 (.c Try.sizeOf3 .n)))))
instance : Und Try.prog 128 (Go.TypeDesc.slice 82) := ⟨Try.runUnderlying128⟩
instance : IsAgg Try.prog 128 false := ⟨Try.isAgg128⟩
instance : TySize Try.prog 128 1 := ⟨Try.sizeOf128⟩
instance : TyBytes Try.prog 128 24 := ⟨_, Try.typeInfo128, rfl⟩
instance : Zero Try.prog 128 [(Go.Value.slice none 0 0)] := ⟨_, Try.zeroValue128, rfl⟩
instance : Und Try.prog 137 (Go.TypeDesc.struct #[(Go.Field.mk "Low" 82 0 Bool.false "" "" 0), (Go.Field.mk "High" 82 3 Bool.false "" "" 40)]) := ⟨Try.runUnderlying137⟩
instance : IsAgg Try.prog 137 true := ⟨Try.isAgg137⟩
instance : TySize Try.prog 137 6 := ⟨Try.sizeOf137⟩
instance : TyBytes Try.prog 137 80 := ⟨_, Try.typeInfo137, rfl⟩
instance : Zero Try.prog 137 [(Go.Value.slice none 0 0), (Go.Value.int Go.IntKind.i64 0), (Go.Value.int Go.IntKind.i64 0), (Go.Value.slice none 0 0), (Go.Value.int Go.IntKind.i64 0), (Go.Value.int Go.IntKind.i64 0)] := ⟨_, Try.zeroValue137, rfl⟩
instance : Fld Try.prog 137 0 0 := Fld.of (n := 3) ⟨Try.runUnderlying137⟩ rfl ⟨Try.sizeOf82⟩ (by decide) rfl
instance : Fld Try.prog 137 1 3 := Fld.of (n := 3) ⟨Try.runUnderlying137⟩ rfl ⟨Try.sizeOf82⟩ (by decide) rfl
instance : Places Try.prog 137 (fun i => ([(0, 3), (3, 3)] : List (Nat × Nat))[i]?) := Places.struct ⟨Try.runUnderlying137⟩ (.c Try.sizeOf82 (.c Try.sizeOf82 .n))
instance : Und Try.prog 145 (Go.TypeDesc.slice 32) := ⟨Try.runUnderlying145⟩
instance : IsAgg Try.prog 145 false := ⟨Try.isAgg145⟩
instance : TySize Try.prog 145 1 := ⟨Try.sizeOf145⟩
instance : TyBytes Try.prog 145 24 := ⟨_, Try.typeInfo145, rfl⟩
instance : Zero Try.prog 145 [(Go.Value.slice none 0 0)] := ⟨_, Try.zeroValue145, rfl⟩
instance : Und Try.prog 149 (Go.TypeDesc.int Go.IntKind.u64) := ⟨Try.runUnderlying149⟩
instance : IsAgg Try.prog 149 false := ⟨Try.isAgg149⟩
instance : TySize Try.prog 149 1 := ⟨Try.sizeOf149⟩
instance : TyBytes Try.prog 149 8 := ⟨_, Try.typeInfo149, rfl⟩
instance : Zero Try.prog 149 [(Go.Value.int Go.IntKind.u64 0)] := ⟨_, Try.zeroValue149, rfl⟩
instance : Und Try.prog 152 (Go.TypeDesc.func #[3, 3] #[] Bool.false) := ⟨Try.runUnderlying152⟩
instance : IsAgg Try.prog 152 false := ⟨Try.isAgg152⟩
instance : TySize Try.prog 152 1 := ⟨Try.sizeOf152⟩
instance : TyBytes Try.prog 152 8 := ⟨_, Try.typeInfo152, rfl⟩
instance : Zero Try.prog 152 [Go.Value.nilFunc] := ⟨_, Try.zeroValue152, rfl⟩
instance : Und Try.prog 156 (Go.TypeDesc.array 3 100) := ⟨Try.runUnderlying156⟩
instance : IsAgg Try.prog 156 true := ⟨Try.isAgg156⟩
instance : TySize Try.prog 156 3 := ⟨Try.sizeOf156⟩
instance : TyBytes Try.prog 156 24 := ⟨_, Try.typeInfo156, rfl⟩
instance : Zero Try.prog 156 [Go.Value.nilFunc, Go.Value.nilFunc, Go.Value.nilFunc] := ⟨_, Try.zeroValue156, rfl⟩
instance : Places Try.prog 156 (fun i => some (i * 1, 1)) := Places.array ⟨Try.runUnderlying156⟩ ⟨Try.sizeOf100⟩
instance : Und Try.prog 172 (Go.TypeDesc.int Go.IntKind.u32) := ⟨Try.runUnderlying172⟩
instance : IsAgg Try.prog 172 false := ⟨Try.isAgg172⟩
instance : TySize Try.prog 172 1 := ⟨Try.sizeOf172⟩
instance : TyBytes Try.prog 172 4 := ⟨_, Try.typeInfo172, rfl⟩
instance : Zero Try.prog 172 [(Go.Value.int Go.IntKind.u32 0)] := ⟨_, Try.zeroValue172, rfl⟩
instance : Und Try.prog 175 (Go.TypeDesc.int Go.IntKind.u64) := ⟨Try.runUnderlying175⟩
instance : IsAgg Try.prog 175 false := ⟨Try.isAgg175⟩
instance : TySize Try.prog 175 1 := ⟨Try.sizeOf175⟩
instance : TyBytes Try.prog 175 8 := ⟨_, Try.typeInfo175, rfl⟩
instance : Zero Try.prog 175 [(Go.Value.int Go.IntKind.u64 0)] := ⟨_, Try.zeroValue175, rfl⟩
theorem _root_.Go.Proofs.Try.mixed : Try.prog.follows .mixedOrders = true := by kernel_rfl
end Go.X

set_option linter.unusedSimpArgs false
set_option linter.unusedVariables false
set_option maxRecDepth 20000
namespace Go.X
open Go.Proofs
def encRoom (x : HRoom) : List Value := [.int .i64 x.store, .int .i64 x.limit]
def encWall (x : HWall) : List Value := [.int .i64 x.a, .int .i64 x.b, .int .i64 x.pass]
def encBranch (x : HBranch) : List Value := [.int .i64 x.up, .int .i64 x.opn, .int .i64 x.leak]
def encCooler (x : HCooler) : List Value := [.int .i64 x.room, .int .i64 x.br, .int .i64 x.gain, .int .i64 x.carry, .int .i64 x.supply]
theorem okRoom_iff {x : HRoom} : okRoom x = true ↔ ¬ ((x.store < 1 ∨ 1000000 < x.store) ∨ ¬ inP x.limit 1000000 = true) := by
  simp only [okRoom, Bool.and_eq_true, decide_eq_true_eq, not_or, Classical.not_not]
  constructor <;> rintro ⟨⟨a, b⟩, c⟩ <;> exact ⟨⟨by omega, by omega⟩, c⟩
theorem okWall_iff {n : Nat} {x : HWall} : okWall n x = true ↔ ¬ (((¬ ixP x.a n = true ∨ x.b ≠ -1 ∧ ¬ ixP x.b n = true) ∨ x.a = x.b) ∨ ¬ inP x.pass 100000 = true) := by
  simp only [okWall, Bool.and_eq_true, Bool.or_eq_true, decide_eq_true_eq, not_or, Classical.not_not, not_and]
  constructor
  · rintro ⟨⟨⟨a, b⟩, c⟩, d⟩
    exact ⟨⟨⟨a, fun h => b.resolve_left h⟩, c⟩, d⟩
  · rintro ⟨⟨⟨a, b⟩, c⟩, d⟩
    exact ⟨⟨⟨a, if h : x.b = -1 then .inl h else .inr (b h)⟩, c⟩, d⟩
theorem okBranch_iff {i : Nat} {x : HBranch} : okBranch i x = true ↔ ¬ ((((i : Int) = 0 ∧ x.up ≠ -1 ∨ (0 : Int) < i ∧ ¬ ixP x.up i = true) ∨ ¬ inP x.opn 100 = true) ∨ ¬ inP x.leak 100000 = true) := by
  unfold okBranch
  by_cases h : i = 0
  · subst h; simp [and_assoc]
  · have h1 : ¬ (i : Int) = 0 := by omega
    have h2 : (0 : Int) < i := by omega
    have h3 : 0 < i := by omega
    simp [h, h2, h3, and_assoc]
theorem okCooler_iff {n m : Nat} {x : HCooler} : okCooler n m x = true ↔ ¬ ((((¬ ixP x.room n = true ∨ ¬ ixP x.br m = true) ∨ ¬ inP x.gain 100000 = true) ∨ ¬ inP x.carry 1000 = true) ∨ ¬ inP x.supply 1000000 = true) := by
  simp only [okCooler, Bool.and_eq_true, not_or, Classical.not_not]
theorem in_spec (n m : Int) : Spec Try.prog 37 #[.int .i64 n, .int .i64 m] [] [] (fun v hs => v = .bool (inP n m) ∧ hs = []) := by
  refine Spec.intro (fn := Try.f37) (N := 12) Try.func37 rfl Try.ntmps37 rfl fun B => ?_
  refine XK.seq ?_
  refine XK.region rfl ?_
  refine XO.q (Q.assign rfl) ?_
  refine XO.done ?_
  refine XK.seq ?_
  refine XK.region rfl ?_
  refine XO.q (Q.move rfl) ?_
  refine XO.q (Q.geq rfl rfl) ?_
  refine XO.q (Q.move rfl) ?_
  refine XO.q (Quiet.guardT rfl rfl fun g8 p8 => Q.move rfl) ?_
  refine XO.q (Quiet.guardT rfl rfl fun g9 p9 => Q.move rfl) ?_
  refine XO.q (Quiet.guardT rfl rfl fun g10 p10 => Q.leq (lzv g10 rfl) (lzv g10 rfl)) ?_
  refine XO.q (Q.and rfl (fun hp => lzv hp rfl)) ?_
  refine XO.q (Q.assign rfl) ?_
  refine XO.done ?_
  refine XK.rt [] Try.func37 Try.results37 (.t rfl .n) ?_
  exact ⟨rfl, rfl⟩
theorem indexRoom (n : Int) (v : Value) (hh : PHeap) (xs : List HRoom) [s : Arr v encRoom 2 hh xs] : Spec Try.prog 102 #[.int .i64 n, v] [] [hh] (fun v hs => v = .bool (ixP n xs.length) ∧ hs = []) := by
  refine Spec.intro (fn := Try.f102) (N := 13) Try.func102 rfl Try.ntmps102 rfl fun B => ?_
  refine XK.seq ?_
  refine XK.region rfl ?_
  refine XO.q (Q.assign rfl) ?_
  refine XO.done ?_
  refine XK.seq ?_
  refine XK.region rfl ?_
  refine XO.q (Q.move rfl) ?_
  refine XO.q (Q.geq rfl rfl) ?_
  refine XO.q (Q.move rfl) ?_
  refine XO.q (Quiet.guardT rfl rfl fun g8 p8 => Q.move rfl) ?_
  refine XO.q (Quiet.guardT rfl rfl fun g9 p9 => Q.move rfl) ?_
  refine XO.q (Quiet.guardT rfl rfl fun g10 p10 => Q.len (lzv g10 rfl)) ?_
  refine XO.q (Quiet.guardT rfl rfl fun g11 p11 => Q.lss (lzv g11 rfl) (lzv g11 rfl)) ?_
  refine XO.q (Q.and rfl (fun hp => lzv hp rfl)) ?_
  refine XO.q (Q.assign rfl) ?_
  refine XO.done ?_
  refine XK.rt [] Try.func102 Try.results102 (.t rfl .n) ?_
  exact ⟨rfl, rfl⟩
theorem indexBranch (n : Int) (v : Value) (hh : PHeap) (xs : List HBranch) [s : Arr v encBranch 3 hh xs] : Spec Try.prog 103 #[.int .i64 n, v] [] [hh] (fun v hs => v = .bool (ixP n xs.length) ∧ hs = []) := by
  refine Spec.intro (fn := Try.f103) (N := 13) Try.func103 rfl Try.ntmps103 rfl fun B => ?_
  refine XK.seq ?_
  refine XK.region rfl ?_
  refine XO.q (Q.assign rfl) ?_
  refine XO.done ?_
  refine XK.seq ?_
  refine XK.region rfl ?_
  refine XO.q (Q.move rfl) ?_
  refine XO.q (Q.geq rfl rfl) ?_
  refine XO.q (Q.move rfl) ?_
  refine XO.q (Quiet.guardT rfl rfl fun g8 p8 => Q.move rfl) ?_
  refine XO.q (Quiet.guardT rfl rfl fun g9 p9 => Q.move rfl) ?_
  refine XO.q (Quiet.guardT rfl rfl fun g10 p10 => Q.len (lzv g10 rfl)) ?_
  refine XO.q (Quiet.guardT rfl rfl fun g11 p11 => Q.lss (lzv g11 rfl) (lzv g11 rfl)) ?_
  refine XO.q (Q.and rfl (fun hp => lzv hp rfl)) ?_
  refine XO.q (Q.assign rfl) ?_
  refine XO.done ?_
  refine XK.rt [] Try.func103 Try.results103 (.t rfl .n) ?_
  exact ⟨rfl, rfl⟩
theorem indexCut (n : Int) (v : Value) (hh : PHeap) (xs : List HBranch) [s : Arr v encBranch 3 hh xs] (i : Nat) (hi : i ≤ xs.length) : Spec Try.prog 103 #[.int .i64 n, cutv v 3 0 i] [] [hh] (fun v hs => v = .bool (ixP n i) ∧ hs = []) := by
  haveI := Arr.cut s (i := 0) (j := i) (by omega) hi
  have h := indexBranch n (cutv v 3 0 i) hh ((xs.drop 0).take (i - 0))
  rwa [List.drop_zero, Nat.sub_zero, List.length_take, Nat.min_eq_left hi] at h
theorem allowed_spec (h : Hall) (vr vw vb vc : Value) (hr hw hb hc : PHeap) [ir : Arr vr encRoom 2 hr h.rooms] [iw : Arr vw encWall 3 hw h.walls] [ib : Arr vb encBranch 3 hb h.branches] [ic : Arr vc encCooler 5 hc h.coolers] : Spec Try.prog 73 #[.agg #[vr, vw, vb, vc]] [] [hr, hw, hb, hc] (fun v hs => v = .bool (allowedP h) ∧ hs = []) := by
  have lr := ir.le
  have lw := iw.le
  have lb := ib.le
  have lc := ic.le
  refine Spec.intro (fn := Try.f73) (N := 155) Try.func73 rfl Try.ntmps73 rfl fun B => ?_
  refine XK.seq ?_
  refine XK.region rfl ?_
  refine XO.box rfl fun b1 => ?_
  refine XO.q (Q.assign rfl) ?_
  refine XO.done ?_
  refine XK.seq ?_
  refine XK.seq ?_
  refine XK.region rfl ?_
  refine XO.q (Q.fieldAddr rfl) ?_
  refine XO.q (Q.ld rfl rfl) ?_
  refine XO.len rfl fun l13 => ?_
  refine XO.q (Q.move rfl) ?_
  refine XO.done ?_
  refine XK.block ?_
  refine XK.while (X := Nat) [2, 4, 14, 15, 16, 17, 18, 19, 20, 21, 22, 23, 24, 25, 26, 27, 28, 29, 30, 31, 32] (fun i => [(14, some (.int .i64 (i : Nat)))]) (fun i => []) (fun i => i ≤ h.rooms.length ∧ roomsOk h i = true) (fun i => h.rooms.length - i) (0) [] rfl ⟨by omega, rfl⟩ (.c rfl (.base 0 rfl rfl)) ?_
  rintro i ⟨hi, hall⟩ ih0
  dsimp only [List.cons_append, List.nil_append] at ih0 ⊢
  refine XK.seq ?_
  refine XK.region rfl ?_
  refine XO.q (Q.lss rfl rfl) ?_
  refine XO.done ?_
  refine XK.seq ?_
  refine XK.if rfl (fun c0 => ?_) (fun c0 => ?_)
  · have _t0 := True.intro
    refine XK.skip ?_
    refine XK.seq ?_
    refine XK.block ?_
    refine XK.seq ?_
    refine XK.region rfl ?_
    refine XO.ix rfl rfl (by omega) (by omega) fun i16 => ?_
    refine XO.q (Q.ldEA [_, _] rfl (by first | assumption | omega) rfl rfl) ?_
    refine XO.alloc fun b4 => ?_
    refine XO.st rfl rfl rfl ?_
    refine XO.done ?_
    refine XK.seq ?_
    refine XK.region rfl ?_
    refine XO.q (Q.fieldAddr rfl) ?_
    refine XO.q (Q.ld rfl rfl) ?_
    refine XO.q (Q.lss rfl rfl) ?_
    refine XO.q (Q.move rfl) ?_
    refine XO.q (Quiet.guardF rfl rfl fun g22 p22 => Q.fieldAddr rfl) ?_
    refine XO.q (Quiet.guardF rfl rfl fun g23 p23 => Q.ld (lzv g23 rfl) rfl) ?_
    refine XO.q (Quiet.guardF rfl rfl fun g24 p24 => Q.gtr (lzv g24 rfl) rfl) ?_
    refine XO.q (Q.or rfl (fun hp => lzv hp rfl)) ?_
    refine XO.q (Q.move rfl) ?_
    refine XO.q (Quiet.guardF rfl rfl fun g27 p27 => Q.fieldAddr rfl) ?_
    refine XO.q (Quiet.guardF rfl rfl fun g28 p28 => Q.ld (lzv g28 rfl) rfl) ?_
    refine XO.gcallF rfl rfl Try.call37 rfl (fun g29 => .c (lzv g29 rfl) (.c rfl .n)) rfl (fun g29 p29 => in_spec _ _) ?_
    refine XO.q (Quiet.guardF rfl rfl fun g30 p30 => Q.not (lzv g30 rfl)) ?_
    refine XO.q (Q.or rfl (fun hp => lzv hp rfl)) ?_
    refine XO.done ?_
    refine XK.if rfl (fun c1 => ?_) (fun c1 => ?_)
    · have _t1 := True.intro
      refine XK.seq ?_
      refine XK.region rfl ?_
      refine XO.q (Q.assign rfl) ?_
      refine XO.done ?_
      refine XK.rt [] Try.func73 Try.results73 (.t rfl .n) ?_
      have hb : roomsOk h h.rooms.length = false := allTo_false (s := i) (by omega) (by rw [Bool.eq_false_iff]; intro h; exact (okRoom_iff.1 h) c1)
      exact ⟨by simp [allowedP, hb], rfl⟩
    · have _t1 := True.intro
      refine XK.skip ?_
      refine XK.inBlock ?_
      refine XK.region rfl ?_
      refine XO.q (Q.add rfl rfl ⟨by omega, by omega⟩) ?_
      refine XO.q (Q.move rfl) ?_
      refine XO.done ?_
      exact ih0 (i + 1) _ _ ⟨by omega, by rw [roomsOk, allTo_succ]; rw [roomsOk] at hall; rw [hall, Bool.true_and]; exact okRoom_iff.2 c1⟩ (by first | omega | (dsimp only; omega)) (.c rfl (.base 42 rfl rfl)) inferInstance
  · have _t0 := True.intro
    have e1 : roomsOk h h.rooms.length = true := by rw [show h.rooms.length = i by omega]; exact hall
    clear ih0 hall hi c0
    refine XK.exit rfl ?_
    refine XK.seq ?_
    refine XK.seq ?_
    refine XK.region rfl ?_
    refine XO.q (Q.fieldAddr rfl) ?_
    refine XO.q (Q.ld rfl rfl) ?_
    refine XO.len rfl fun l35 => ?_
    refine XO.q (Q.move rfl) ?_
    refine XO.done ?_
    refine XK.block ?_
    refine XK.while (X := Nat) [2, 6, 36, 37, 38, 39, 40, 41, 42, 43, 44, 45, 46, 47, 48, 49, 50, 51, 52, 53, 54, 55, 56, 57, 58, 59, 60, 61, 62, 63, 64, 65, 66, 67, 68, 69, 70, 71, 72] (fun i => [(36, some (.int .i64 (i : Nat)))]) (fun i => []) (fun i => i ≤ h.walls.length ∧ wallsOk h i = true) (fun i => h.walls.length - i) (0) [] rfl ⟨by omega, rfl⟩ (.c rfl (.base 0 rfl rfl)) ?_
    rintro i ⟨hi, hall⟩ ih1
    dsimp only [List.cons_append, List.nil_append] at ih1 ⊢
    refine XK.seq ?_
    refine XK.region rfl ?_
    refine XO.q (Q.lss rfl rfl) ?_
    refine XO.done ?_
    refine XK.seq ?_
    refine XK.if rfl (fun c2 => ?_) (fun c2 => ?_)
    · have _t2 := True.intro
      refine XK.skip ?_
      refine XK.seq ?_
      refine XK.block ?_
      refine XK.seq ?_
      refine XK.region rfl ?_
      refine XO.ix rfl rfl (by omega) (by omega) fun i38 => ?_
      refine XO.q (Q.ldEA [_, _, _] rfl (by first | assumption | omega) rfl rfl) ?_
      refine XO.alloc fun b6 => ?_
      refine XO.st rfl rfl rfl ?_
      refine XO.done ?_
      refine XK.seq ?_
      refine XK.region rfl ?_
      refine XO.q (Q.fieldAddr rfl) ?_
      refine XO.q (Q.ld rfl rfl) ?_
      refine XO.q (Q.fieldAddr rfl) ?_
      refine XO.q (Q.ld rfl rfl) ?_
      refine XO.call Try.call102 rfl rfl rfl (indexRoom _ vr hr h.rooms) fun v44 s44 R44 => ?_
      obtain ⟨rfl, rfl⟩ := R44
      dsimp only [List.cons_append, List.nil_append]
      refine XO.q (Q.not rfl) ?_
      refine XO.q (Q.move rfl) ?_
      refine XO.q (Quiet.guardF rfl rfl fun g47 p47 => Q.fieldAddr rfl) ?_
      refine XO.q (Quiet.guardF rfl rfl fun g48 p48 => Q.ld (lzv g48 rfl) rfl) ?_
      refine XO.q (Quiet.guardF rfl rfl fun g49 p49 => Q.neq (lzv g49 rfl) rfl) ?_
      refine XO.q (Quiet.guardF rfl rfl fun g50 p50 => Q.move (lzv g50 rfl)) ?_
      refine XO.q (Quiet.guard2 rfl rfl fun g51a g51b => have p51a := bpF g51a; have p51b := bpT g51b; Q.fieldAddr rfl) ?_
      refine XO.q (Quiet.guard2 rfl rfl fun g52a g52b => have p52a := bpF g52a; have p52b := bpT g52b; Q.ld (lzv g52b (lzv g52a rfl)) rfl) ?_
      refine XO.q (Quiet.guard2 rfl rfl fun g53a g53b => have p53a := bpF g53a; have p53b := bpT g53b; Q.fieldAddr rfl) ?_
      refine XO.q (Quiet.guard2 rfl rfl fun g54a g54b => have p54a := bpF g54a; have p54b := bpT g54b; Q.ld (lzv g54b (lzv g54a rfl)) rfl) ?_
      refine XO.vg2 rfl rfl (fun g55a g55b => rfl) (fun g55a g55b => .c (lzv g55b (lzv g55a rfl)) (.c (lzv g55b (lzv g55a rfl)) .n)) (fun g55a g55b => have p55a := bpF g55a; have p55b := bpT g55b; VSpec.fn (P := Try.prog) Try.call102 rfl (indexRoom _ vr hr h.rooms)) ?_
      refine XO.q (Quiet.guard2 rfl rfl fun g56a g56b => have p56a := bpF g56a; have p56b := bpT g56b; Q.not (lzv g56b (lzv g56a rfl))) ?_
      refine XO.q (Quiet.guardF rfl rfl fun g57 p57 => Q.and (lzv g57 rfl) (fun hp => (lzv hp (lzv g57 rfl)))) ?_
      refine XO.q (Q.or rfl (fun hp => lzv hp rfl)) ?_
      refine XO.q (Q.move rfl) ?_
      refine XO.q (Quiet.guardF rfl rfl fun g60 p60 => Q.fieldAddr rfl) ?_
      refine XO.q (Quiet.guardF rfl rfl fun g61 p61 => Q.ld (lzv g61 rfl) rfl) ?_
      refine XO.q (Quiet.guardF rfl rfl fun g62 p62 => Q.fieldAddr rfl) ?_
      refine XO.q (Quiet.guardF rfl rfl fun g63 p63 => Q.ld (lzv g63 rfl) rfl) ?_
      refine XO.q (Quiet.guardF rfl rfl fun g64 p64 => Q.eql (lzv g64 rfl) (lzv g64 rfl)) ?_
      refine XO.q (Q.or rfl (fun hp => lzv hp rfl)) ?_
      refine XO.q (Q.move rfl) ?_
      refine XO.q (Quiet.guardF rfl rfl fun g67 p67 => Q.fieldAddr rfl) ?_
      refine XO.q (Quiet.guardF rfl rfl fun g68 p68 => Q.ld (lzv g68 rfl) rfl) ?_
      refine XO.gcallF rfl rfl Try.call37 rfl (fun g69 => .c (lzv g69 rfl) (.c rfl .n)) rfl (fun g69 p69 => in_spec _ _) ?_
      refine XO.q (Quiet.guardF rfl rfl fun g70 p70 => Q.not (lzv g70 rfl)) ?_
      refine XO.q (Q.or rfl (fun hp => lzv hp rfl)) ?_
      refine XO.done ?_
      refine XK.if rfl (fun c3 => ?_) (fun c3 => ?_)
      · have _t3 := True.intro
        refine XK.seq ?_
        refine XK.region rfl ?_
        refine XO.q (Q.assign rfl) ?_
        refine XO.done ?_
        refine XK.rt [] Try.func73 Try.results73 (.t rfl .n) ?_
        have hb : wallsOk h h.walls.length = false := allTo_false (s := i) (by omega) (by rw [Bool.eq_false_iff]; intro h; exact (okWall_iff.1 h) c3)
        exact ⟨by simp [allowedP, hb], rfl⟩
      · have _t3 := True.intro
        refine XK.skip ?_
        refine XK.inBlock ?_
        refine XK.region rfl ?_
        refine XO.q (Q.add rfl rfl ⟨by omega, by omega⟩) ?_
        refine XO.q (Q.move rfl) ?_
        refine XO.done ?_
        exact ih1 (i + 1) _ _ ⟨by omega, by rw [wallsOk, allTo_succ]; rw [wallsOk] at hall; rw [hall, Bool.true_and]; exact okWall_iff.2 c3⟩ (by first | omega | (dsimp only; omega)) (.c rfl (.base 78 rfl rfl)) inferInstance
    · have _t2 := True.intro
      have e2 : wallsOk h h.walls.length = true := by rw [show h.walls.length = i by omega]; exact hall
      clear ih1 hall hi c2
      refine XK.exit rfl ?_
      refine XK.seq ?_
      refine XK.seq ?_
      refine XK.region rfl ?_
      refine XO.q (Q.fieldAddr rfl) ?_
      refine XO.q (Q.ld rfl rfl) ?_
      refine XO.len rfl fun l75 => ?_
      refine XO.q (Q.move rfl) ?_
      refine XO.done ?_
      refine XK.block ?_
      refine XK.while (X := Nat) [2, 7, 8, 76, 77, 78, 79, 80, 81, 82, 83, 84, 85, 86, 87, 88, 89, 90, 91, 92, 93, 94, 95, 96, 97, 98, 99, 100, 101, 102, 103, 104, 105, 106, 107, 108, 109, 110, 111, 112, 113, 114] (fun i => [(76, some (.int .i64 (i : Nat)))]) (fun i => []) (fun i => i ≤ h.branches.length ∧ branchesOk h i = true) (fun i => h.branches.length - i) (0) [] rfl ⟨by omega, rfl⟩ (.c rfl (.base 0 rfl rfl)) ?_
      rintro i ⟨hi, hall⟩ ih2
      dsimp only [List.cons_append, List.nil_append] at ih2 ⊢
      refine XK.seq ?_
      refine XK.region rfl ?_
      refine XO.q (Q.lss rfl rfl) ?_
      refine XO.done ?_
      refine XK.seq ?_
      refine XK.if rfl (fun c4 => ?_) (fun c4 => ?_)
      · have _t4 := True.intro
        refine XK.skip ?_
        refine XK.seq ?_
        refine XK.block ?_
        refine XK.seq ?_
        refine XK.region rfl ?_
        refine XO.q (Q.move rfl) ?_
        refine XO.ix rfl rfl (by omega) (by omega) fun i79 => ?_
        refine XO.q (Q.ldEA [_, _, _] rfl (by first | assumption | omega) rfl rfl) ?_
        refine XO.alloc fun b8 => ?_
        refine XO.q (Q.assign rfl) ?_
        refine XO.st rfl rfl rfl ?_
        refine XO.done ?_
        refine XK.seq ?_
        refine XK.drawn [0, 1, 2, 3, 4, 5, 6, 7, 8, 9, 10, 11, 12, 13, 14, 15, 16, 18, 19, 20, 21, 22, 23, 25, 26, 27, 28, 29, 31, 32] [b8, b1] [] (.q 0 (.q 1 (.q 2 (.q 3 (.q 4 (.q 5 (.q 6 (.q 7 (.q 8 (.q 9 (.q 10 (.q 11 (.q 12 (.q 13 (.q 14 (.q 15 (.q 16 (.br 17 true (.q 18 (.q 19 (.q 20 (.q 21 (.q 22 (.q 23 (.br 24 true (.q 25 (.q 26 (.q 27 (.q 28 (.q 29 (.br 30 true (.q 31 (.q 32 .done)) .stop)))))) .stop))))))) .stop)))))))))))))))))) Try.mixed rfl (by kernel_rfl) ?_
        refine XT.q rfl rfl (Q.move rfl) ?_
        refine XT.q rfl rfl (Q.eql rfl rfl) ?_
        refine XT.q rfl rfl (Q.move rfl) ?_
        refine XT.q rfl rfl (Quiet.guardT rfl rfl fun g84 p84 => Q.fieldAddr rfl) ?_
        refine XT.q rfl rfl (Quiet.guardT rfl rfl fun g85 p85 => Q.ld (lzv g85 rfl) rfl) ?_
        refine XT.q rfl rfl (Quiet.guardT rfl rfl fun g86 p86 => Q.neq (lzv g86 rfl) rfl) ?_
        refine XT.q rfl rfl (Q.and rfl (fun hp => lzv hp rfl)) ?_
        refine XT.q rfl rfl (Q.move rfl) ?_
        refine XT.q rfl rfl (Quiet.guardF rfl rfl fun g89 p89 => Q.move rfl) ?_
        refine XT.q rfl rfl (Quiet.guardF rfl rfl fun g90 p90 => Q.gtr (lzv g90 rfl) rfl) ?_
        refine XT.q rfl rfl (Quiet.guardF rfl rfl fun g91 p91 => Q.move (lzv g91 rfl)) ?_
        refine XT.q rfl rfl (Quiet.guard2 rfl rfl fun g92a g92b => have p92a := bpF g92a; have p92b := bpT g92b; Q.fieldAddr rfl) ?_
        refine XT.q rfl rfl (Quiet.guard2 rfl rfl fun g93a g93b => have p93a := bpF g93a; have p93b := bpT g93b; Q.ld (lzv g93b (lzv g93a rfl)) rfl) ?_
        refine XT.q rfl rfl (Quiet.guard2 rfl rfl fun g94a g94b => have p94a := bpF g94a; have p94b := bpT g94b; Q.fieldAddr rfl) ?_
        refine XT.q rfl rfl (Quiet.guard2 rfl rfl fun g95a g95b => have p95a := bpF g95a; have p95b := bpT g95b; Q.ld (lzv g95b (lzv g95a rfl)) rfl) ?_
        refine XT.q rfl rfl (Quiet.guard2 rfl rfl fun g96a g96b => have p96a := bpF g96a; have p96b := bpT g96b; Q.move rfl) ?_
        refine XT.q rfl rfl (Quiet.guard2 rfl rfl fun g97a g97b => have p97a := bpF g97a; have p97b := bpT g97b; Q.cut (i := 0) (j := i) (lzv g97b (lzv g97a rfl)) .n (.s (lzv g97b (lzv g97a rfl)) (by omega)) (by omega) (by omega)) ?_
        refine XT.vg2 rfl rfl rfl rfl (fun g98a g98b => rfl) (fun g98a g98b => .c (lzv g98b (lzv g98a rfl)) (.c (lzv g98b (lzv g98a rfl)) .n)) (fun g98a g98b => have p98a := bpF g98a; have p98b := bpT g98b; VSpec.fn (P := Try.prog) Try.call103 rfl (indexCut _ vb hb h.branches i (by omega))) ⟨inferInstance, ?_⟩ XT.stop
        refine XT.q rfl rfl (Quiet.guard2 rfl rfl fun g99a g99b => have p99a := bpF g99a; have p99b := bpT g99b; Q.not (lzv g99b (lzv g99a rfl))) ?_
        refine XT.q rfl rfl (Quiet.guardF rfl rfl fun g100 p100 => Q.and (lzv g100 rfl) (fun hp => (lzv hp (lzv g100 rfl)))) ?_
        refine XT.q rfl rfl (Q.or rfl (fun hp => lzv hp rfl)) ?_
        refine XT.q rfl rfl (Q.move rfl) ?_
        refine XT.q rfl rfl (Quiet.guardF rfl rfl fun g103 p103 => Q.fieldAddr rfl) ?_
        refine XT.q rfl rfl (Quiet.guardF rfl rfl fun g104 p104 => Q.ld (lzv g104 rfl) rfl) ?_
        refine XT.gcallF rfl rfl rfl rfl Try.call37 rfl (fun g105 => .c (lzv g105 rfl) (.c rfl .n)) rfl (fun g105 p105 => in_spec _ _) ⟨inferInstance, ?_⟩ XT.stop
        refine XT.q rfl rfl (Quiet.guardF rfl rfl fun g106 p106 => Q.not (lzv g106 rfl)) ?_
        refine XT.q rfl rfl (Q.or rfl (fun hp => lzv hp rfl)) ?_
        refine XT.q rfl rfl (Q.move rfl) ?_
        refine XT.q rfl rfl (Quiet.guardF rfl rfl fun g109 p109 => Q.fieldAddr rfl) ?_
        refine XT.q rfl rfl (Quiet.guardF rfl rfl fun g110 p110 => Q.ld (lzv g110 rfl) rfl) ?_
        refine XT.gcallF rfl rfl rfl rfl Try.call37 rfl (fun g111 => .c (lzv g111 rfl) (.c rfl .n)) rfl (fun g111 p111 => in_spec _ _) ⟨inferInstance, ?_⟩ XT.stop
        refine XT.q rfl rfl (Quiet.guardF rfl rfl fun g112 p112 => Q.not (lzv g112 rfl)) ?_
        refine XT.q rfl rfl (Q.or rfl (fun hp => lzv hp rfl)) ?_
        refine XT.done ?_
        refine XK.if rfl (fun c5 => ?_) (fun c5 => ?_)
        · have _t5 := True.intro
          refine XK.seq ?_
          refine XK.region rfl ?_
          refine XO.q (Q.assign rfl) ?_
          refine XO.done ?_
          refine XK.rt [] Try.func73 Try.results73 (.t rfl .n) ?_
          have hb : branchesOk h h.branches.length = false := allTo_false (s := i) (by omega) (by rw [Bool.eq_false_iff]; intro h; exact (okBranch_iff.1 h) c5)
          exact ⟨by simp [allowedP, hb], rfl⟩
        · have _t5 := True.intro
          refine XK.skip ?_
          refine XK.inBlock ?_
          refine XK.region rfl ?_
          refine XO.q (Q.add rfl rfl ⟨by omega, by omega⟩) ?_
          refine XO.q (Q.move rfl) ?_
          refine XO.done ?_
          exact ih2 (i + 1) _ _ ⟨by omega, by rw [branchesOk, allTo_succ]; rw [branchesOk] at hall; rw [hall, Bool.true_and]; exact okBranch_iff.2 c5⟩ (by first | omega | (dsimp only; omega)) (.c rfl (.base 84 rfl rfl)) inferInstance
      · have _t4 := True.intro
        have e3 : branchesOk h h.branches.length = true := by rw [show h.branches.length = i by omega]; exact hall
        clear ih2 hall hi c4
        refine XK.exit rfl ?_
        refine XK.seq ?_
        refine XK.seq ?_
        refine XK.region rfl ?_
        refine XO.q (Q.fieldAddr rfl) ?_
        refine XO.q (Q.ld rfl rfl) ?_
        refine XO.len rfl fun l117 => ?_
        refine XO.q (Q.move rfl) ?_
        refine XO.done ?_
        refine XK.block ?_
        refine XK.while (X := Nat) [2, 10, 118, 119, 120, 121, 122, 123, 124, 125, 126, 127, 128, 129, 130, 131, 132, 133, 134, 135, 136, 137, 138, 139, 140, 141, 142, 143, 144, 145, 146, 147, 148, 149, 150, 151, 152, 153, 154] (fun i => [(118, some (.int .i64 (i : Nat)))]) (fun i => []) (fun i => i ≤ h.coolers.length ∧ coolersOk h i = true) (fun i => h.coolers.length - i) (0) [] rfl ⟨by omega, rfl⟩ (.c rfl (.base 0 rfl rfl)) ?_
        rintro i ⟨hi, hall⟩ ih3
        dsimp only [List.cons_append, List.nil_append] at ih3 ⊢
        refine XK.seq ?_
        refine XK.region rfl ?_
        refine XO.q (Q.lss rfl rfl) ?_
        refine XO.done ?_
        refine XK.seq ?_
        refine XK.if rfl (fun c6 => ?_) (fun c6 => ?_)
        · have _t6 := True.intro
          refine XK.skip ?_
          refine XK.seq ?_
          refine XK.block ?_
          refine XK.seq ?_
          refine XK.region rfl ?_
          refine XO.ix rfl rfl (by omega) (by omega) fun i120 => ?_
          refine XO.q (Q.ldEA [_, _, _, _, _] rfl (by first | assumption | omega) rfl rfl) ?_
          refine XO.alloc fun b10 => ?_
          refine XO.st rfl rfl rfl ?_
          refine XO.done ?_
          refine XK.seq ?_
          refine XK.region rfl ?_
          refine XO.q (Q.fieldAddr rfl) ?_
          refine XO.q (Q.ld rfl rfl) ?_
          refine XO.q (Q.fieldAddr rfl) ?_
          refine XO.q (Q.ld rfl rfl) ?_
          refine XO.call Try.call102 rfl rfl rfl (indexRoom _ vr hr h.rooms) fun v126 s126 R126 => ?_
          obtain ⟨rfl, rfl⟩ := R126
          dsimp only [List.cons_append, List.nil_append]
          refine XO.q (Q.not rfl) ?_
          refine XO.q (Q.move rfl) ?_
          refine XO.q (Quiet.guardF rfl rfl fun g129 p129 => Q.fieldAddr rfl) ?_
          refine XO.q (Quiet.guardF rfl rfl fun g130 p130 => Q.ld (lzv g130 rfl) rfl) ?_
          refine XO.q (Quiet.guardF rfl rfl fun g131 p131 => Q.fieldAddr rfl) ?_
          refine XO.q (Quiet.guardF rfl rfl fun g132 p132 => Q.ld (lzv g132 rfl) rfl) ?_
          refine XO.gcallF rfl rfl Try.call103 rfl (fun g133 => .c (lzv g133 rfl) (.c (lzv g133 rfl) .n)) rfl (fun g133 p133 => indexBranch _ vb hb h.branches) ?_
          refine XO.q (Quiet.guardF rfl rfl fun g134 p134 => Q.not (lzv g134 rfl)) ?_
          refine XO.q (Q.or rfl (fun hp => lzv hp rfl)) ?_
          refine XO.q (Q.move rfl) ?_
          refine XO.q (Quiet.guardF rfl rfl fun g137 p137 => Q.fieldAddr rfl) ?_
          refine XO.q (Quiet.guardF rfl rfl fun g138 p138 => Q.ld (lzv g138 rfl) rfl) ?_
          refine XO.gcallF rfl rfl Try.call37 rfl (fun g139 => .c (lzv g139 rfl) (.c rfl .n)) rfl (fun g139 p139 => in_spec _ _) ?_
          refine XO.q (Quiet.guardF rfl rfl fun g140 p140 => Q.not (lzv g140 rfl)) ?_
          refine XO.q (Q.or rfl (fun hp => lzv hp rfl)) ?_
          refine XO.q (Q.move rfl) ?_
          refine XO.q (Quiet.guardF rfl rfl fun g143 p143 => Q.fieldAddr rfl) ?_
          refine XO.q (Quiet.guardF rfl rfl fun g144 p144 => Q.ld (lzv g144 rfl) rfl) ?_
          refine XO.gcallF rfl rfl Try.call37 rfl (fun g145 => .c (lzv g145 rfl) (.c rfl .n)) rfl (fun g145 p145 => in_spec _ _) ?_
          refine XO.q (Quiet.guardF rfl rfl fun g146 p146 => Q.not (lzv g146 rfl)) ?_
          refine XO.q (Q.or rfl (fun hp => lzv hp rfl)) ?_
          refine XO.q (Q.move rfl) ?_
          refine XO.q (Quiet.guardF rfl rfl fun g149 p149 => Q.fieldAddr rfl) ?_
          refine XO.q (Quiet.guardF rfl rfl fun g150 p150 => Q.ld (lzv g150 rfl) rfl) ?_
          refine XO.gcallF rfl rfl Try.call37 rfl (fun g151 => .c (lzv g151 rfl) (.c rfl .n)) rfl (fun g151 p151 => in_spec _ _) ?_
          refine XO.q (Quiet.guardF rfl rfl fun g152 p152 => Q.not (lzv g152 rfl)) ?_
          refine XO.q (Q.or rfl (fun hp => lzv hp rfl)) ?_
          refine XO.done ?_
          refine XK.if rfl (fun c7 => ?_) (fun c7 => ?_)
          · have _t7 := True.intro
            refine XK.seq ?_
            refine XK.region rfl ?_
            refine XO.q (Q.assign rfl) ?_
            refine XO.done ?_
            refine XK.rt [] Try.func73 Try.results73 (.t rfl .n) ?_
            have hb : coolersOk h h.coolers.length = false := allTo_false (s := i) (by omega) (by rw [Bool.eq_false_iff]; intro h; exact (okCooler_iff.1 h) c7)
            exact ⟨by simp [allowedP, hb], rfl⟩
          · have _t7 := True.intro
            refine XK.skip ?_
            refine XK.inBlock ?_
            refine XK.region rfl ?_
            refine XO.q (Q.add rfl rfl ⟨by omega, by omega⟩) ?_
            refine XO.q (Q.move rfl) ?_
            refine XO.done ?_
            exact ih3 (i + 1) _ _ ⟨by omega, by rw [coolersOk, allTo_succ]; rw [coolersOk] at hall; rw [hall, Bool.true_and]; exact okCooler_iff.2 c7⟩ (by first | omega | (dsimp only; omega)) (.c rfl (.base 78 rfl rfl)) inferInstance
        · have _t6 := True.intro
          have e4 : coolersOk h h.coolers.length = true := by rw [show h.coolers.length = i by omega]; exact hall
          refine XK.exit rfl ?_
          refine XK.seq ?_
          refine XK.region rfl ?_
          refine XO.q (Q.assign rfl) ?_
          refine XO.done ?_
          refine XK.rt [] Try.func73 Try.results73 (.t rfl .n) ?_
          exact ⟨by rw [allowedP, e1, e2, e3, e4]; rfl, rfl⟩
end Go.X

set_option linter.unusedSimpArgs false
set_option linter.unusedVariables false
set_option maxRecDepth 20000
namespace Go.X
open Go.Proofs
theorem hcheck_many {h : Hall} (c : (((((h.rooms.length : Int) < 1 ∨ 8 < (h.rooms.length : Int)) ∨ 16 < (h.walls.length : Int)) ∨ 16 < (h.branches.length : Int)) ∨ 16 < (h.coolers.length : Int))) : hcheck h = 2 := by rw [hcheck, if_pos c]
theorem Check_spec (h : Hall) (vr vw vb vc : Value) (hr hw hb hc : PHeap) [ir : Arr vr encRoom 2 hr h.rooms] [iw : Arr vw encWall 3 hw h.walls] [ib : Arr vb encBranch 3 hb h.branches] [ic : Arr vc encCooler 5 hc h.coolers] : Spec Try.prog 36 #[.agg #[vr, vw, vb, vc]] [] [hr, hw, hb, hc] (fun v hs => v = .int .i64 (hcheck h) ∧ hs = []) := by
  have lr := ir.le
  have lw := iw.le
  have lb := ib.le
  have lc := ic.le
  refine Spec.intro (fn := Try.f36) (N := 92) Try.func36 rfl Try.ntmps36 rfl fun B => ?_
  refine XK.seq ?_
  refine XK.region rfl ?_
  refine XO.box rfl fun b1 => ?_
  refine XO.q (Q.assign rfl) ?_
  refine XO.done ?_
  refine XK.seq ?_
  refine XK.seq ?_
  refine XK.region rfl ?_
  refine XO.q (Q.fieldAddr rfl) ?_
  refine XO.q (Q.ld rfl rfl) ?_
  refine XO.len rfl fun l12 => ?_
  refine XO.q (Q.lss rfl rfl) ?_
  refine XO.q (Q.move rfl) ?_
  refine XO.q (Quiet.guardF rfl rfl fun g15 p15 => Q.fieldAddr rfl) ?_
  refine XO.q (Quiet.guardF rfl rfl fun g16 p16 => Q.ld (lzv g16 rfl) rfl) ?_
  refine XO.q (Quiet.guardF rfl rfl fun g17 p17 => Q.len (lzv g17 rfl)) ?_
  refine XO.q (Quiet.guardF rfl rfl fun g18 p18 => Q.gtr (lzv g18 rfl) rfl) ?_
  refine XO.q (Q.or rfl (fun hp => lzv hp rfl)) ?_
  refine XO.q (Q.move rfl) ?_
  refine XO.q (Quiet.guardF rfl rfl fun g21 p21 => Q.fieldAddr rfl) ?_
  refine XO.q (Quiet.guardF rfl rfl fun g22 p22 => Q.ld (lzv g22 rfl) rfl) ?_
  refine XO.q (Quiet.guardF rfl rfl fun g23 p23 => Q.len (lzv g23 rfl)) ?_
  refine XO.q (Quiet.guardF rfl rfl fun g24 p24 => Q.gtr (lzv g24 rfl) rfl) ?_
  refine XO.q (Q.or rfl (fun hp => lzv hp rfl)) ?_
  refine XO.q (Q.move rfl) ?_
  refine XO.q (Quiet.guardF rfl rfl fun g27 p27 => Q.fieldAddr rfl) ?_
  refine XO.q (Quiet.guardF rfl rfl fun g28 p28 => Q.ld (lzv g28 rfl) rfl) ?_
  refine XO.q (Quiet.guardF rfl rfl fun g29 p29 => Q.len (lzv g29 rfl)) ?_
  refine XO.q (Quiet.guardF rfl rfl fun g30 p30 => Q.gtr (lzv g30 rfl) rfl) ?_
  refine XO.q (Q.or rfl (fun hp => lzv hp rfl)) ?_
  refine XO.q (Q.move rfl) ?_
  refine XO.q (Quiet.guardF rfl rfl fun g33 p33 => Q.fieldAddr rfl) ?_
  refine XO.q (Quiet.guardF rfl rfl fun g34 p34 => Q.ld (lzv g34 rfl) rfl) ?_
  refine XO.q (Quiet.guardF rfl rfl fun g35 p35 => Q.len (lzv g35 rfl)) ?_
  refine XO.q (Quiet.guardF rfl rfl fun g36 p36 => Q.gtr (lzv g36 rfl) rfl) ?_
  refine XO.q (Q.or rfl (fun hp => lzv hp rfl)) ?_
  refine XO.done ?_
  refine XK.if rfl (fun c0 => ?_) (fun c0 => ?_)
  · have _t0 := True.intro
    refine XK.seq ?_
    refine XK.region rfl ?_
    refine XO.q (Q.assign rfl) ?_
    refine XO.done ?_
    refine XK.rt [] Try.func36 Try.results36 (.t rfl .n) ?_
    exact ⟨by rw [hcheck_many c0], rfl⟩
  · have _t0 := True.intro
    refine XK.skip ?_
    refine XK.seq ?_
    refine XK.seq ?_
    refine XK.region rfl ?_
    refine XO.q (Q.ldA [_, _, _, _] rfl rfl rfl) ?_
    refine XO.call Try.call73 rfl rfl rfl (allowed_spec h vr vw vb vc hr hw hb hc) fun v39 s39 R39 => ?_
    obtain ⟨rfl, rfl⟩ := R39
    dsimp only [List.cons_append, List.nil_append]
    refine XO.q (Q.not rfl) ?_
    refine XO.done ?_
    refine XK.if rfl (fun c1 => ?_) (fun c1 => ?_)
    · have _t1 := True.intro
      refine XK.seq ?_
      refine XK.region rfl ?_
      refine XO.q (Q.assign rfl) ?_
      refine XO.done ?_
      refine XK.rt [] Try.func36 Try.results36 (.t rfl .n) ?_
      exact ⟨by rw [hcheck, if_neg c0, if_pos (by simpa using c1)], rfl⟩
    · have _t1 := True.intro
      have ha : allowedP h = true := Classical.byContradiction c1
      refine XK.skip ?_
      refine XK.seq ?_
      refine XK.seq ?_
      refine XK.region rfl ?_
      refine XO.q (Q.fieldAddr rfl) ?_
      refine XO.q (Q.ld rfl rfl) ?_
      refine XO.len rfl fun l43 => ?_
      refine XO.q (Q.move rfl) ?_
      refine XO.done ?_
      refine XK.block ?_
      refine XK.while (X := Nat) [2, 3, 4, 5, 7, 9, 44, 45, 46, 47, 48, 49, 50, 51, 52, 53, 54, 55, 56, 57, 58, 59, 60, 61, 62, 63, 64, 65, 66, 67, 68, 69, 70, 71, 72, 73, 74, 75, 76, 77, 78, 79, 80, 81, 82, 83, 84, 85, 86, 87, 88, 89, 90, 91] (fun i => [(44, some (.int .i64 (i : Nat)))]) (fun i => []) (fun i => i ≤ h.rooms.length ∧ allTo (fun i => decide (slope h i ≤ (h.rooms.getD i default).store)) i = true) (fun i => h.rooms.length - i) (0) [] rfl ⟨by omega, rfl⟩ (.c rfl (.base 0 rfl rfl)) ?_
      rintro i ⟨hi, hall⟩ ih0
      dsimp only [List.cons_append, List.nil_append] at ih0 ⊢
      refine XK.seq ?_
      refine XK.region rfl ?_
      refine XO.q (Q.lss rfl rfl) ?_
      refine XO.done ?_
      refine XK.seq ?_
      refine XK.if rfl (fun c2 => ?_) (fun c2 => ?_)
      · have _t2 := True.intro
        refine XK.skip ?_
        refine XK.seq ?_
        refine XK.block ?_
        refine XK.seq ?_
        refine XK.region rfl ?_
        refine XO.q (Q.move rfl) ?_
        refine XO.ix rfl rfl (by omega) (by omega) fun i47 => ?_
        refine XO.q (Q.ldEA [_, _] rfl (by first | assumption | omega) rfl rfl) ?_
        refine XO.alloc fun b4 => ?_
        refine XO.q (Q.assign rfl) ?_
        refine XO.st rfl rfl rfl ?_
        refine XO.done ?_
        refine XK.seq ?_
        refine XK.region rfl ?_
        refine XO.q (Q.assign rfl) ?_
        refine XO.done ?_
        refine XK.seq ?_
        refine XK.seq ?_
        refine XK.region rfl ?_
        refine XO.q (Q.fieldAddr rfl) ?_
        refine XO.q (Q.ld rfl rfl) ?_
        refine XO.len rfl fun l51 => ?_
        refine XO.q (Q.move rfl) ?_
        refine XO.done ?_
        refine XK.block ?_
        refine XK.while (X := Nat) [5, 7, 52, 53, 54, 55, 56, 57, 58, 59, 60, 61, 62, 63, 64, 65, 66, 67, 68, 69, 70] (fun k => [(52, some (.int .i64 (k : Nat))), (5, some (.int .i64 (sumTo (wslope h i) k)))]) (fun k => []) (fun k => k ≤ h.walls.length) (fun k => h.walls.length - k) (0) [] rfl (by omega) (.c rfl (.c rfl (.base 0 rfl rfl))) ?_
        rintro k hk ih1
        dsimp only [List.cons_append, List.nil_append] at ih1 ⊢
        refine XK.seq ?_
        refine XK.region rfl ?_
        refine XO.q (Q.lss rfl rfl) ?_
        refine XO.done ?_
        refine XK.seq ?_
        refine XK.if rfl (fun c3 => ?_) (fun c3 => ?_)
        · have _t3 := True.intro
          have hws := wsum_rng ha (by omega) i (k := k) (by omega)
          have hwf := (allowed_facts ha).2.1 k (by omega)
          refine XK.skip ?_
          refine XK.seq ?_
          refine XK.block ?_
          refine XK.seq ?_
          refine XK.region rfl ?_
          refine XO.ix rfl rfl (by omega) (by omega) fun i54 => ?_
          refine XO.q (Q.ldEA [_, _, _] rfl (by first | assumption | omega) rfl rfl) ?_
          refine XO.alloc fun b7 => ?_
          refine XO.st rfl rfl rfl ?_
          refine XO.done ?_
          refine XK.seq ?_
          refine XK.region rfl ?_
          refine XO.q (Q.fieldAddr rfl) ?_
          refine XO.q (Q.ld rfl rfl) ?_
          refine XO.q (Q.move rfl) ?_
          refine XO.q (Q.eql rfl rfl) ?_
          refine XO.q (Q.move rfl) ?_
          refine XO.q (Quiet.guardF rfl rfl fun g61 p61 => Q.fieldAddr rfl) ?_
          refine XO.q (Quiet.guardF rfl rfl fun g62 p62 => Q.ld (lzv g62 rfl) rfl) ?_
          refine XO.q (Quiet.guardF rfl rfl fun g63 p63 => Q.move rfl) ?_
          refine XO.q (Quiet.guardF rfl rfl fun g64 p64 => Q.eql (lzv g64 rfl) (lzv g64 rfl)) ?_
          refine XO.q (Q.or rfl (fun hp => lzv hp rfl)) ?_
          refine XO.done ?_
          refine XK.if rfl (fun c4 => ?_) (fun c4 => ?_)
          · have _t4 := True.intro
            refine XK.region rfl ?_
            refine XO.q (Q.move rfl) ?_
            refine XO.q (Q.fieldAddr rfl) ?_
            refine XO.q (Q.ld rfl rfl) ?_
            refine XO.q (Q.add rfl rfl ⟨by omega, by omega⟩) ?_
            refine XO.q (Q.assign rfl) ?_
            refine XO.done ?_
            refine XK.inBlock ?_
            refine XK.region rfl ?_
            refine XO.q (Q.add rfl rfl ⟨by omega, by omega⟩) ?_
            refine XO.q (Q.move rfl) ?_
            refine XO.done ?_
            rw [show sumTo (wslope h i) k + (h.walls.getD k default).pass = sumTo (wslope h i) (k + 1) by rw [sumTo, wslope, if_pos c4]]
            exact ih1 (k + 1) _ _ (by omega) (by first | omega | (dsimp only; omega)) (.c rfl (.c rfl (.base 44 rfl rfl))) inferInstance
          · have _t4 := True.intro
            refine XK.skip ?_
            refine XK.inBlock ?_
            refine XK.region rfl ?_
            refine XO.q (Q.add rfl rfl ⟨by omega, by omega⟩) ?_
            refine XO.q (Q.move rfl) ?_
            refine XO.done ?_
            rw [show sumTo (wslope h i) k = sumTo (wslope h i) (k + 1) by rw [sumTo, wslope, if_neg c4, Int.add_zero]]
            exact ih1 (k + 1) _ _ (by omega) (by first | omega | (dsimp only; omega)) (.c rfl (.c rfl (.base 39 rfl rfl))) inferInstance
        · have _t3 := True.intro
          have hkw : k = h.walls.length := by omega
          rw [hkw]
          have hws := wsum_rng ha (by omega) i (k := h.walls.length) (Nat.le_refl _)
          rw [show sumTo (wslope h i) h.walls.length = sumTo (wslope h i) h.walls.length + sumTo (cslope h i) 0 by rw [sumTo, Int.add_zero]]
          clear ih1 hk hkw c3
          refine XK.exit rfl ?_
          refine XK.seq ?_
          refine XK.seq ?_
          refine XK.region rfl ?_
          refine XO.q (Q.fieldAddr rfl) ?_
          refine XO.q (Q.ld rfl rfl) ?_
          refine XO.len rfl fun l73 => ?_
          refine XO.q (Q.move rfl) ?_
          refine XO.done ?_
          refine XK.block ?_
          refine XK.while (X := Nat) [5, 9, 74, 75, 76, 77, 78, 79, 80, 81, 82, 83, 84, 85, 86] (fun k => [(74, some (.int .i64 (k : Nat))), (5, some (.int .i64 (sumTo (wslope h i) h.walls.length + sumTo (cslope h i) k)))]) (fun k => []) (fun k => k ≤ h.coolers.length) (fun k => h.coolers.length - k) (0) [] rfl (by omega) (.c rfl (.c rfl (.base 0 rfl rfl))) ?_
          rintro k hk ih2
          dsimp only [List.cons_append, List.nil_append] at ih2 ⊢
          refine XK.seq ?_
          refine XK.region rfl ?_
          refine XO.q (Q.lss rfl rfl) ?_
          refine XO.done ?_
          refine XK.seq ?_
          refine XK.if rfl (fun c5 => ?_) (fun c5 => ?_)
          · have _t5 := True.intro
            have hcs := csum_rng ha (by omega) i (k := k) (by omega)
            have hcf := (allowed_facts ha).2.2 k (by omega)
            refine XK.skip ?_
            refine XK.seq ?_
            refine XK.block ?_
            refine XK.seq ?_
            refine XK.region rfl ?_
            refine XO.ix rfl rfl (by omega) (by omega) fun i76 => ?_
            refine XO.q (Q.ldEA [_, _, _, _, _] rfl (by first | assumption | omega) rfl rfl) ?_
            refine XO.alloc fun b9 => ?_
            refine XO.st rfl rfl rfl ?_
            refine XO.done ?_
            refine XK.seq ?_
            refine XK.region rfl ?_
            refine XO.q (Q.fieldAddr rfl) ?_
            refine XO.q (Q.ld rfl rfl) ?_
            refine XO.q (Q.move rfl) ?_
            refine XO.q (Q.eql rfl rfl) ?_
            refine XO.done ?_
            refine XK.if rfl (fun c6 => ?_) (fun c6 => ?_)
            · have _t6 := True.intro
              refine XK.region rfl ?_
              refine XO.q (Q.move rfl) ?_
              refine XO.q (Q.fieldAddr rfl) ?_
              refine XO.q (Q.ld rfl rfl) ?_
              refine XO.q (Q.add rfl rfl ⟨by omega, by omega⟩) ?_
              refine XO.q (Q.assign rfl) ?_
              refine XO.done ?_
              refine XK.inBlock ?_
              refine XK.region rfl ?_
              refine XO.q (Q.add rfl rfl ⟨by omega, by omega⟩) ?_
              refine XO.q (Q.move rfl) ?_
              refine XO.done ?_
              rw [show sumTo (wslope h i) h.walls.length + sumTo (cslope h i) k + (h.coolers.getD k default).gain = sumTo (wslope h i) h.walls.length + sumTo (cslope h i) (k + 1) by rw [sumTo, cslope, if_pos c6, Int.add_assoc]]
              exact ih2 (k + 1) _ _ (by omega) (by first | omega | (dsimp only; omega)) (.c rfl (.c rfl (.base 32 rfl rfl))) inferInstance
            · have _t6 := True.intro
              refine XK.skip ?_
              refine XK.inBlock ?_
              refine XK.region rfl ?_
              refine XO.q (Q.add rfl rfl ⟨by omega, by omega⟩) ?_
              refine XO.q (Q.move rfl) ?_
              refine XO.done ?_
              rw [show sumTo (cslope h i) k = sumTo (cslope h i) (k + 1) by rw [sumTo, cslope, if_neg c6, Int.add_zero]]
              exact ih2 (k + 1) _ _ (by omega) (by first | omega | (dsimp only; omega)) (.c rfl (.c rfl (.base 27 rfl rfl))) inferInstance
          · have _t5 := True.intro
            have hkc : k = h.coolers.length := by omega
            rw [hkc]
            refine XK.exit rfl ?_
            refine XK.seq ?_
            refine XK.region rfl ?_
            refine XO.q (Q.move rfl) ?_
            refine XO.q (Q.fieldAddr rfl) ?_
            refine XO.q (Q.ld rfl rfl) ?_
            refine XO.q (Q.gtr rfl rfl) ?_
            refine XO.done ?_
            refine XK.if rfl (fun c7 => ?_) (fun c7 => ?_)
            · have _t7 := True.intro
              refine XK.seq ?_
              refine XK.region rfl ?_
              refine XO.q (Q.assign rfl) ?_
              refine XO.done ?_
              refine XK.rt [] Try.func36 Try.results36 (.t rfl .n) ?_
              exact ⟨by rw [hcheck, if_neg c0, if_neg (by rw [ha]; simp), if_neg]; rw [allTo_false (s := i) (by omega) (by rw [decide_eq_false_iff_not]; change ¬ sumTo (wslope h i) h.walls.length + sumTo (cslope h i) h.coolers.length ≤ _; omega)]; simp, rfl⟩
            · have _t7 := True.intro
              refine XK.skip ?_
              refine XK.inBlock ?_
              refine XK.region rfl ?_
              refine XO.q (Q.add rfl rfl ⟨by omega, by omega⟩) ?_
              refine XO.q (Q.move rfl) ?_
              refine XO.done ?_
              exact ih0 (i + 1) _ _ ⟨by omega, by rw [allTo_succ, hall, Bool.true_and, decide_eq_true_eq]; change sumTo (wslope h i) h.walls.length + sumTo (cslope h i) h.coolers.length ≤ _; omega⟩ (by first | omega | (dsimp only; omega)) (.c rfl (.base 118 rfl rfl)) inferInstance
      · have _t2 := True.intro
        refine XK.exit rfl ?_
        refine XK.seq ?_
        refine XK.region rfl ?_
        refine XO.q (Q.assign rfl) ?_
        refine XO.done ?_
        refine XK.rt [] Try.func36 Try.results36 (.t rfl .n) ?_
        have hin : i = h.rooms.length := by omega
        rw [hin] at hall
        exact ⟨by rw [hcheck, if_neg c0, if_neg (by rw [ha]; simp), if_pos hall], rfl⟩
theorem next7 (b : Nat) (vl : Value) (hl : PHeap) (l : List UInt8) [sl : Arr vl encU8 1 hl l] (i n : Nat) (hi : i ≤ 1000000000) (hn : 0 < n) (hn2 : n ≤ 1000000) : Spec Try.prog 35 #[ptr b 0, .int .i64 (n : Nat)] [blk b [vl, .int .i64 (i : Nat)] 99] [hl]
    (fun v hs => hs = [blk b [vl, .int .i64 ((i + 1 : Nat) : Int)] 99] ∧ ∃ r : Nat, v = .int .i64 (r : Nat) ∧ r < n) := by
  refine Spec.intro (fn := Try.f35) (N := 36) Try.func35 rfl Try.ntmps35 rfl fun B => ?_
  refine XK.seq ?_
  refine XK.region rfl ?_
  refine XO.q (Q.assign rfl) ?_
  refine XO.done ?_
  refine XK.seq ?_
  refine XK.region rfl ?_
  refine XO.q (Q.move rfl) ?_
  refine XO.q (Q.nilCheck rfl) ?_
  refine XO.q (Q.fieldAddr rfl) ?_
  refine XO.q (Q.ld rfl rfl) ?_
  refine XO.q (Q.add rfl rfl ⟨by omega, by omega⟩) ?_
  rw [show ((i : Int) + 1) = ((i + 1 : Nat) : Int) from rfl]
  refine XO.q (Q.nilCheck rfl) ?_
  refine XO.q (Q.fieldAddr rfl) ?_
  refine XO.st rfl rfl rfl ?_
  refine XO.done ?_
  refine XK.seq ?_
  refine XK.seq ?_
  refine XK.drawn [0, 1, 2, 3, 4, 5, 6, 7, 8, 9] [b] [] (.q 0 (.q 1 (.q 2 (.q 3 (.q 4 (.q 5 (.q 6 (.q 7 (.q 8 (.q 9 .done)))))))))) Try.mixed rfl (by kernel_rfl) ?_
  refine XT.q rfl rfl (Q.move rfl) ?_
  refine XT.q rfl rfl (Q.nilCheck rfl) ?_
  refine XT.q rfl rfl (Q.fieldAddr rfl) ?_
  refine XT.q rfl rfl (Q.ld rfl rfl) ?_
  refine XT.q rfl rfl (Q.move rfl) ?_
  refine XT.q rfl rfl (Q.nilCheck rfl) ?_
  refine XT.q rfl rfl (Q.fieldAddr rfl) ?_
  refine XT.q rfl rfl (Q.ld rfl rfl) ?_
  refine XT.q rfl rfl (Q.len rfl) ?_
  refine XT.q rfl rfl (Q.gtr rfl rfl) ?_
  refine XT.done ?_
  refine XK.if rfl (fun c0 => ?_) (fun c0 => ?_)
  · have _t0 := True.intro
    refine XK.seq ?_
    refine XK.region rfl ?_
    refine XO.q (Q.assign rfl) ?_
    refine XO.done ?_
    refine XK.rt [blk b [vl, .int .i64 ((i + 1 : Nat) : Int)] 99] Try.func35 Try.results35 (.t rfl .n) ?_
    exact ⟨rfl, 0, rfl, hn⟩
  · have _t0 := True.intro
    refine XK.skip ?_
    refine XK.seq ?_
    refine XK.drawn [0, 1, 2, 3, 4, 5, 6, 7, 8, 9, 10, 11, 12, 13, 14] [b] [] (.q 0 (.q 1 (.q 2 (.q 3 (.q 4 (.q 5 (.q 6 (.q 7 (.q 8 (.q 9 (.q 10 (.q 11 (.q 12 (.q 13 (.q 14 .done))))))))))))))) Try.mixed rfl (by kernel_rfl) ?_
    refine XT.q rfl rfl (Q.move rfl) ?_
    refine XT.q rfl rfl (Q.nilCheck rfl) ?_
    refine XT.q rfl rfl (Q.fieldAddr rfl) ?_
    refine XT.q rfl rfl (Q.ld rfl rfl) ?_
    refine XT.q rfl rfl (Q.move rfl) ?_
    refine XT.q rfl rfl (Q.nilCheck rfl) ?_
    refine XT.q rfl rfl (Q.fieldAddr rfl) ?_
    refine XT.q rfl rfl (Q.ld rfl rfl) ?_
    refine XT.q rfl rfl (Q.sub rfl rfl ⟨by omega, by omega⟩) ?_
    rw [show (((i + 1 : Nat) : Int) - 1) = (i : Int) by omega]
    refine XT.ix rfl rfl rfl rfl (by omega) (by omega) fun i31 => ?_
    refine XT.q rfl rfl (Q.ldE rfl (by first | assumption | omega) rfl) ?_
    refine XT.q rfl rfl (Q.conv rfl) ?_
    have hu := (l.getD i default).toNat_lt
    rw [wrap64_of ⟨by omega, by omega⟩]
    refine XT.q rfl rfl (Q.move rfl) ?_
    refine XT.q rfl rfl (Q.rem rfl rfl (by omega) (by omega)) ?_
    rw [show ((((l.getD i default).toNat : Nat) : Int) % (n : Int)) = (((l.getD i default).toNat % n : Nat) : Int) from rfl]
    refine XT.q rfl rfl (Q.assign rfl) ?_
    refine XT.done ?_
    refine XK.rt [blk b [vl, .int .i64 ((i + 1 : Nat) : Int)] 99] Try.func35 Try.results35 (.t rfl .n) ?_
    exact ⟨rfl, (l.getD i default).toNat % n, rfl, Nat.mod_lt _ hn⟩
end Go.X

set_option linter.unusedSimpArgs false
set_option linter.unusedVariables false
set_option maxRecDepth 20000
namespace Go.X
open Go.Proofs
theorem feed_spec (h : Hall) (vr vw vb vc : Value) (hb : PHeap) [ib : Arr vb encBranch 3 hb h.branches] (ok : HOk h) (pump : Int) (hp : 0 ≤ pump) (hp2 : pump ≤ 100000) (b2 b5 b6 : Nat) (vo : Value) :
    ∀ (m i : Nat), i < h.branches.length → h.branches.length - i ≤ m → ∀ (x : Int), 0 ≤ x → x ≤ 100000 → max (x - (h.branches.getD i default).leak) 0 = (flowsL h pump).getD i 0 → ∀ (ho : PHeap) (o : List Int), OArr vo encI 1 3 ho o → o.length = h.branches.length → (∀ j, Sub h i j → o.getD j 0 = 0) →
    Spec Try.prog 74 #[.int .i64 (i : Nat), .int .i64 x, ptr b2 0, ptr b5 0, ptr b6 0] [ho] [blk b2 [vr, vw, vb, vc] 29, blk b5 [vo] 31, blk b6 [(.func (.func 74) #[] #[ptr b2 0, ptr b5 0, ptr b6 0])] 152, hb]
      (fun v hs => ∃ h' o', hs = [h'] ∧ OArr vo encI 1 3 h' o' ∧ o'.length = h.branches.length ∧ (∀ j, j < h.branches.length → Sub h i j → o'.getD j 0 = (flowsL h pump).getD j 0) ∧ ∀ j, ¬ Sub h i j → o'.getD j 0 = o.getD j 0) := by
  intro m
  induction m with
  | zero => intro i hi hm; omega
  | succ m ih =>
    intro i hi hm x hx hx2 hF ho o OO hol hz
    have hbr := ok.branch i hi
    have hb2 := ok.b2
    have hone := open_le ok (i : Int) (n := h.branches.length) (Nat.le_refl _)
    refine Spec.intro (fn := Try.f74) (N := 69) Try.func74 rfl Try.ntmps74 rfl fun B => ?_
    refine XK.seq ?_
    refine XK.drawn [0, 1, 2, 3, 4, 5, 6, 7, 8, 9, 10, 11] [b5, b2] [] (.q 0 (.q 1 (.q 2 (.q 3 (.q 4 (.q 5 (.q 6 (.q 7 (.q 8 (.q 9 (.q 10 (.q 11 (.br 12 false .done .stop))))))))))))) Try.mixed rfl (by kernel_rfl) ?_
    refine XT.q rfl rfl (Q.ld rfl rfl) ?_
    refine XT.q rfl rfl (Q.move rfl) ?_
    refine XT.q rfl rfl (Q.move rfl) ?_
    refine XT.q rfl rfl (Q.fieldAddr rfl) ?_
    refine XT.q rfl rfl (Q.ld rfl rfl) ?_
    refine XT.q rfl rfl (Q.move rfl) ?_
    refine XT.ix rfl rfl rfl rfl (by omega) (by omega) fun i18 => ?_
    refine XT.q rfl rfl (Q.fieldQ rfl (by first | assumption | omega)) ?_
    refine XT.q rfl rfl (Q.ldE rfl (by first | assumption | omega) rfl) ?_
    refine XT.q rfl rfl (Q.sub rfl rfl ⟨by omega, by omega⟩) ?_
    refine XT.q rfl rfl (Q.max rfl rfl) ?_
    refine XT.ix rfl rfl rfl rfl (by omega) (by omega) fun i23 => ?_
    refine XT.stE _ rfl rfl rfl rfl rfl (by assumption) rfl rfl (fun h0_12 O0_12 => ⟨inferInstance, ?_⟩) XT.stop
    rw [hF] at O0_12
    have fs := fed_start (pump := pump) hi hol
    refine XT.done ?_
    refine XK.seq ?_
    refine XK.region rfl ?_
    refine XO.q (Q.assign rfl) ?_
    refine XO.done ?_
    refine XK.seq ?_
    refine XK.seq ?_
    refine XK.region rfl ?_
    refine XO.q (Q.fieldAddr rfl) ?_
    refine XO.q (Q.ld rfl rfl) ?_
    refine XO.len rfl fun l26 => ?_
    refine XO.q (Q.move rfl) ?_
    refine XO.done ?_
    refine XK.block ?_
    refine XK.while (X := Nat) [7, 9, 27, 28, 29, 30, 31, 32, 33, 34, 35, 36, 37, 38, 39] (fun k => [(27, some (.int .i64 (k : Nat))), (7, some (.int .i64 (sumOpen h i k)))]) (fun k => []) (fun k => k ≤ h.branches.length) (fun k => h.branches.length - k) (0) [] rfl (by omega) (.c rfl (.c rfl (.base 0 rfl rfl))) ?_
    rintro k hk ih0
    dsimp only [List.cons_append, List.nil_append] at ih0 ⊢
    refine XK.seq ?_
    refine XK.region rfl ?_
    refine XO.q (Q.lss rfl rfl) ?_
    refine XO.done ?_
    refine XK.seq ?_
    refine XK.if rfl (fun c0 => ?_) (fun c0 => ?_)
    · have _t0 := True.intro
      have hop := open_le ok (i : Int) (n := k) (by omega)
      have hop0 := open_nonneg ok (i : Int) (n := k) (by omega)
      have hbk := ok.branch k (by omega)
      refine XK.skip ?_
      refine XK.seq ?_
      refine XK.block ?_
      refine XK.seq ?_
      refine XK.region rfl ?_
      refine XO.ix rfl rfl (by omega) (by omega) fun i29 => ?_
      refine XO.q (Q.ldEA [_, _, _] rfl (by first | assumption | omega) rfl rfl) ?_
      refine XO.alloc fun b9 => ?_
      refine XO.st rfl rfl rfl ?_
      refine XO.done ?_
      refine XK.seq ?_
      refine XK.region rfl ?_
      refine XO.q (Q.fieldAddr rfl) ?_
      refine XO.q (Q.ld rfl rfl) ?_
      refine XO.q (Q.move rfl) ?_
      refine XO.q (Q.eql rfl rfl) ?_
      refine XO.done ?_
      refine XK.if rfl (fun c1 => ?_) (fun c1 => ?_)
      · have _t1 := True.intro
        refine XK.region rfl ?_
        refine XO.q (Q.move rfl) ?_
        refine XO.q (Q.fieldAddr rfl) ?_
        refine XO.q (Q.ld rfl rfl) ?_
        refine XO.q (Q.add rfl rfl ⟨by omega, by omega⟩) ?_
        refine XO.q (Q.assign rfl) ?_
        refine XO.done ?_
        refine XK.inBlock ?_
        refine XK.region rfl ?_
        refine XO.q (Q.add rfl rfl ⟨by omega, by omega⟩) ?_
        refine XO.q (Q.move rfl) ?_
        refine XO.done ?_
        rw [open_pos c1]
        exact ih0 (k + 1) _ _ (by omega) (by first | omega | (dsimp only; omega)) (.c rfl (.c rfl (.base 32 rfl rfl))) inferInstance
      · have _t1 := True.intro
        refine XK.skip ?_
        refine XK.inBlock ?_
        refine XK.region rfl ?_
        refine XO.q (Q.add rfl rfl ⟨by omega, by omega⟩) ?_
        refine XO.q (Q.move rfl) ?_
        refine XO.done ?_
        rw [open_neg c1]
        exact ih0 (k + 1) _ _ (by omega) (by first | omega | (dsimp only; omega)) (.c rfl (.c rfl (.base 27 rfl rfl))) inferInstance
    · have _t0 := True.intro
      have hkn : k = h.branches.length := by omega
      rw [hkn]
      clear ih0 hk hkn c0
      refine XK.exit rfl ?_
      refine XK.seq ?_
      refine XK.region rfl ?_
      refine XO.q (Q.fieldAddr rfl) ?_
      refine XO.q (Q.ld rfl rfl) ?_
      refine XO.len rfl fun l42 => ?_
      refine XO.q (Q.move rfl) ?_
      refine XO.done ?_
      refine XK.block ?_
      refine XK.while (X := Nat × PHeap × List Int) [10, 11, 43, 44, 45, 46, 47, 48, 49, 50, 51, 52, 53, 54, 55, 56, 57, 58, 59, 60, 61, 62, 63, 64, 65, 66, 67, 68] (fun ⟨k, hq, z⟩ => [(43, some (.int .i64 (k : Nat)))]) (fun ⟨k, hq, z⟩ => [hq]) (fun ⟨k, hq, z⟩ => k ≤ h.branches.length ∧ Fed h pump i k o z ∧ OArr vo encI 1 3 hq z) (fun ⟨k, hq, z⟩ => h.branches.length - k) (0, h0_12, _) [h0_12] rfl ⟨by omega, fs, O0_12⟩ (.c rfl (.base 0 rfl rfl)) ?_
      rintro ⟨k, hq, z⟩ ⟨hk, fd, OZ⟩ ih1
      dsimp only [List.cons_append, List.nil_append] at ih1 ⊢
      refine XK.seq ?_
      refine XK.region rfl ?_
      refine XO.q (Q.lss rfl rfl) ?_
      refine XO.done ?_
      refine XK.seq ?_
      refine XK.if rfl (fun c2 => ?_) (fun c2 => ?_)
      · have _t2 := True.intro
        have hbk := ok.branch k (by omega)
        have hfr := flows_rng ok hp i hi
        have hzl := fd.len
        refine XK.skip ?_
        refine XK.seq ?_
        refine XK.block ?_
        refine XK.seq ?_
        refine XK.region rfl ?_
        refine XO.q (Q.move rfl) ?_
        refine XO.ix rfl rfl (by omega) (by omega) fun i46 => ?_
        refine XO.q (Q.ldEA [_, _, _] rfl (by first | assumption | omega) rfl rfl) ?_
        refine XO.alloc fun b11 => ?_
        refine XO.q (Q.assign rfl) ?_
        refine XO.st rfl rfl rfl ?_
        refine XO.done ?_
        refine XK.seq ?_
        refine XK.region rfl ?_
        refine XO.q (Q.fieldAddr rfl) ?_
        refine XO.q (Q.ld rfl rfl) ?_
        refine XO.q (Q.move rfl) ?_
        refine XO.q (Q.eql rfl rfl) ?_
        refine XO.q (Q.move rfl) ?_
        refine XO.q (Quiet.guardT rfl rfl fun g53 p53 => Q.move rfl) ?_
        refine XO.q (Quiet.guardT rfl rfl fun g54 p54 => Q.gtr (lzv g54 rfl) rfl) ?_
        refine XO.q (Q.and rfl (fun hp => lzv hp rfl)) ?_
        refine XO.done ?_
        refine XK.if rfl (fun c3 => ?_) (fun c3 => ?_)
        · have _t3 := True.intro
          obtain ⟨c3u, c3s⟩ := c3
          have hmul : 0 ≤ (flowsL h pump).getD i 0 * (h.branches.getD k default).opn ∧ (flowsL h pump).getD i 0 * (h.branches.getD k default).opn ≤ 100000 * 100 := ⟨Int.mul_nonneg hfr.1 hbk.2.1.1, Int.mul_le_mul (by omega) hbk.2.1.2 hbk.2.1.1 (by omega)⟩
          have hsh := share_le (x := (flowsL h pump).getD i 0) (o := (h.branches.getD k default).opn) (s := sumOpen h i h.branches.length) hfr.1 hbk.2.1.1 (by have := open_one ok (k := k) (by omega); rw [c3u] at this; exact this) c3s
          have hup := up_of ok (i := k) (by omega) (not_zero ok (by omega) c3u)
          refine XK.drawn [0, 1, 2, 3, 4, 6, 7, 9, 8, 10] [b6, b5, b11] [] (.q 0 (.q 1 (.q 2 (.q 3 (.q 4 (.q 6 (.q 7 (.q 9 (.br 5 true (.q 8 (.q 10 (.br 11 true .done .stop))) .stop))))))))) Try.mixed rfl (by kernel_rfl) ?_
          refine XT.q rfl rfl (Q.ld rfl rfl) ?_
          refine XT.q rfl rfl (Q.move rfl) ?_
          refine XT.q rfl rfl (Q.ld rfl rfl) ?_
          refine XT.q rfl rfl (Q.move rfl) ?_
          refine XT.ix rfl rfl rfl rfl (by omega) (by omega) fun i60 => ?_
          refine XT.q rfl rfl (Q.fieldAddr rfl) ?_
          refine XT.q rfl rfl (Q.ld rfl rfl) ?_
          refine XT.q rfl rfl (Q.move rfl) ?_
          refine XT.qs rfl rfl (Q.ldE rfl (by first | assumption | omega) rfl) ⟨inferInstance, ?_⟩ XT.stop
          rw [show z.getD i default = (flowsL h pump).getD i 0 from fd.yes i hi (.inl rfl)]
          refine XT.q rfl rfl (Q.mul rfl rfl ⟨by omega, by omega⟩) ?_
          refine XT.q rfl rfl (Q.quo rfl rfl (by omega) (by omega) (by omega)) ?_
          refine XT.call rfl rfl Try.call74 rfl rfl rfl (ih k (by omega) (by omega) _ hsh.1 (by omega) (feed_child ok (by omega) c3u c3s).symm hq z OZ fd.len (fed_zero ok fd (by omega) c3u hz)) (fun v67 s67 R67 => ?_) XT.stop
          obtain ⟨h67, y, rfl, O67, y1, y2, y3⟩ := R67
          dsimp only [List.cons_append, List.nil_append]
          refine ⟨inferInstance, ?_⟩
          refine XT.done ?_
          refine XK.inBlock ?_
          refine XK.region rfl ?_
          refine XO.q (Q.add rfl rfl ⟨by omega, by omega⟩) ?_
          refine XO.q (Q.move rfl) ?_
          refine XO.done ?_
          exact ih1 (k + 1, h67, y) _ _ ⟨by dsimp only; omega, fed_call ok fd (by omega) c3u y1 y2 y3, O67⟩ (by first | omega | (dsimp only; omega)) (.c rfl (.base 57 rfl rfl)) inferInstance
        · have _t3 := True.intro
          refine XK.skip ?_
          refine XK.inBlock ?_
          refine XK.region rfl ?_
          refine XO.q (Q.add rfl rfl ⟨by omega, by omega⟩) ?_
          refine XO.q (Q.move rfl) ?_
          refine XO.done ?_
          exact ih1 (k + 1, hq, z) _ _ ⟨by dsimp only; omega, fed_skip ok fd (by omega) hz c3, OZ⟩ (by first | omega | (dsimp only; omega)) (.c rfl (.base 45 rfl rfl)) inferInstance
      · have _t2 := True.intro
        have hkn : k = h.branches.length := by omega
        rw [hkn] at fd
        refine XK.exit rfl ?_
        refine XK.fn [hq] Try.func74 Try.results74 (.n) ?_
        exact ⟨hq, z, rfl, OZ, fd.len, fun j hj s => fd.yes j hj ((done_sub ok hi).1 s), fun j s => fd.no j fun hd => s ((done_sub ok hi).2 hd)⟩
end Go.X

set_option linter.unusedSimpArgs false
set_option linter.unusedVariables false
set_option maxRecDepth 20000
namespace Go.X
open Go.Proofs
theorem flows_eq {h : Hall} {pump : Int} {o : List Int} (hl : o.length = h.branches.length) (hj : ∀ j, j < h.branches.length → o.getD j 0 = (flowsL h pump).getD j 0) : o = flowsL h pump := by
  refine List.ext_getElem (by rw [hl, flows_len]) fun j h1 h2 => ?_
  have := hj j (by omega)
  simpa [h1, h2] using this
theorem flows_zero {h : Hall} (ok : HOk h) {pump : Int} (h0 : 0 < h.branches.length) : max (pump - (h.branches.getD 0 default).leak) 0 = (flowsL h pump).getD 0 0 := by
  rw [flows_at ok h0]; unfold feedOf; rw [if_pos rfl]
theorem flows_spec (h : Hall) (vr vw vb vc : Value) (hb : PHeap) [ir : One vr] [iw : One vw] [ib : Arr vb encBranch 3 hb h.branches] [ic : One vc] (ok : HOk h) (pump : Int) (hp : 0 ≤ pump) (hp2 : pump ≤ 100000) : Spec Try.prog 38 #[.agg #[vr, vw, vb, vc], .int .i64 pump] [] [hb]
    (fun v hs => ∃ k, hs = [k] ∧ OArr v encI 1 3 k (flowsL h pump)) := by
  have hb2 := ok.b2
  refine Spec.intro (fn := Try.f38) (N := 19) Try.func38 rfl Try.ntmps38 rfl fun B => ?_
  refine XK.seq ?_
  refine XK.region rfl ?_
  refine XO.box rfl fun b2 => ?_
  refine XO.q (Q.assign rfl) ?_
  refine XO.done ?_
  refine XK.seq ?_
  refine XK.region rfl ?_
  refine XO.q (Q.fieldAddr rfl) ?_
  refine XO.q (Q.ld rfl rfl) ?_
  refine XO.len rfl fun l9 => ?_
  refine XO.make encI (0) rfl rfl rfl (by omega) (by omega) (fun _ => rfl) rfl rfl rfl (by dsimp only [encI]; infer_instance) fun v10 h10 O10 => ?_
  refine XO.alloc fun b5 => ?_
  refine XO.st rfl rfl rfl ?_
  refine XO.done ?_
  refine XK.seq ?_
  refine XK.region rfl ?_
  refine XO.alloc fun b6 => ?_
  refine XO.done ?_
  refine XK.seq ?_
  refine XK.region rfl ?_
  refine XO.q (Q.func (fun _ he => rfl) (fun _ he => evs_rel he rfl)) ?_
  refine XO.st rfl rfl rfl ?_
  refine XO.done ?_
  refine XK.seq ?_
  refine XK.seq ?_
  refine XK.region rfl ?_
  refine XO.q (Q.ld rfl rfl) ?_
  refine XO.len rfl fun l13 => ?_
  rw [List.length_replicate]
  refine XO.q (Q.gtr rfl rfl) ?_
  refine XO.done ?_
  refine XK.if rfl (fun c0 => ?_) (fun c0 => ?_)
  · have _t0 := True.intro
    refine XK.region rfl ?_
    refine XO.q (Q.ld rfl rfl) ?_
    refine XO.q (Q.move rfl) ?_
    refine XO.call Try.call74 rfl rfl rfl (feed_spec h vr vw vb vc hb ok pump hp hp2 b2 b5 b6 v10 h.branches.length 0 (by omega) (by omega) pump hp hp2 (flows_zero ok (by omega)) h10 (List.replicate h.branches.length 0) O10 (by simp) (fun j _ => by rw [List.getD_eq_getElem?_getD, List.getElem?_replicate]; split <;> simp)) fun v17 s17 R17 => ?_
    obtain ⟨h17, y, rfl, O17, y1, y2, y3⟩ := R17
    dsimp only [List.cons_append, List.nil_append]
    refine XO.done ?_
    refine XK.seq ?_
    refine XK.region rfl ?_
    refine XO.q (Q.ld rfl rfl) ?_
    refine XO.q (Q.assign rfl) ?_
    refine XO.done ?_
    refine XK.rt [h17] Try.func38 Try.results38 (.t rfl .n) ?_
    rw [flows_eq y1 fun j hj => y2 j hj (sub_root ok j hj)] at O17
    exact ⟨h17, rfl, O17⟩
  · have _t0 := True.intro
    refine XK.skip ?_
    refine XK.seq ?_
    refine XK.region rfl ?_
    refine XO.q (Q.ld rfl rfl) ?_
    refine XO.q (Q.assign rfl) ?_
    refine XO.done ?_
    refine XK.rt [h10] Try.func38 Try.results38 (.t rfl .n) ?_
    have h0 : h.branches.length = 0 := by omega
    rw [flows_eq (pump := pump) (h := h) (o := List.replicate h.branches.length 0) (by simp) (fun j hj => by omega)] at O10
    exact ⟨h10, rfl, O10⟩
theorem Flows_spec (h : Hall) (vr vw vb vc : Value) (hr hw hb hc : PHeap) [ir : Arr vr encRoom 2 hr h.rooms] [iw : Arr vw encWall 3 hw h.walls] [ib : Arr vb encBranch 3 hb h.branches] [ic : Arr vc encCooler 5 hc h.coolers] (pump : Int) : Spec Try.prog 10 #[.agg #[vr, vw, vb, vc], .int .i64 pump] [] [hr, hw, hb, hc]
    (fun v hs => ∃ v1 k1, v = .tuple #[v1, .int .i64 (flowsG h pump).2] ∧ hs = [k1] ∧ OArr v1 encI 1 3 k1 (flowsG h pump).1) := by
  refine Spec.intro (fn := Try.f10) (N := 18) Try.func10 rfl Try.ntmps10 rfl fun B => ?_
  refine XK.seq ?_
  refine XK.region rfl ?_
  refine XO.box rfl fun b2 => ?_
  refine XO.q (Q.assign rfl) ?_
  refine XO.q (Q.assign rfl) ?_
  refine XO.done ?_
  refine XK.seq ?_
  refine XK.seq ?_
  refine XK.region rfl ?_
  refine XO.q (Q.ldA [_, _, _, _] rfl rfl rfl) ?_
  refine XO.call Try.call36 rfl rfl rfl (Check_spec h vr vw vb vc hr hw hb hc) fun v8 s8 R8 => ?_
  obtain ⟨rfl, rfl⟩ := R8
  dsimp only [List.cons_append, List.nil_append]
  refine XO.q (Q.assign rfl) ?_
  refine XO.done ?_
  refine XK.seq ?_
  refine XK.region rfl ?_
  refine XO.q (Q.move rfl) ?_
  refine XO.q (Q.neq rfl rfl) ?_
  refine XO.done ?_
  refine XK.if rfl (fun c0 => ?_) (fun c0 => ?_)
  · have _t0 := True.intro
    refine XK.seq ?_
    refine XK.region rfl ?_
    refine XO.q (Q.move rfl) ?_
    refine XO.q (Q.assign rfl) ?_
    refine XO.q (Q.assign rfl) ?_
    refine XO.done ?_
    refine XK.rt [emp] Try.func10 Try.results10 (.t rfl (.t rfl .n)) ?_
    have hw0 : flowsG h pump = ([], hcheck h) := by rw [flowsG, if_pos c0]
    rw [hw0]
    exact ⟨.slice none 0 0, emp, rfl, rfl, OArr.nil (fun _ => rfl)⟩
  · have _t0 := True.intro
    refine XK.skip ?_
    refine XK.seq ?_
    refine XK.seq ?_
    refine XK.region rfl ?_
    refine XO.q (Q.move rfl) ?_
    refine XO.call Try.call37 rfl rfl rfl (in_spec _ _) fun v13 s13 R13 => ?_
    obtain ⟨rfl, rfl⟩ := R13
    dsimp only [List.cons_append, List.nil_append]
    refine XO.q (Q.not rfl) ?_
    refine XO.done ?_
    refine XK.if rfl (fun c1 => ?_) (fun c1 => ?_)
    · have _t1 := True.intro
      refine XK.seq ?_
      refine XK.region rfl ?_
      refine XO.q (Q.assign rfl) ?_
      refine XO.q (Q.assign rfl) ?_
      refine XO.done ?_
      refine XK.rt [emp] Try.func10 Try.results10 (.t rfl (.t rfl .n)) ?_
      have hw0 : flowsG h pump = ([], 6) := by rw [flowsG, if_neg c0, if_pos c1]
      rw [hw0]
      exact ⟨.slice none 0 0, emp, rfl, rfl, OArr.nil (fun _ => rfl)⟩
    · have _t1 := True.intro
      have hpp : inP pump 100000 = true := Classical.byContradiction c1
      have hp2 := hpp
      simp only [inP, Bool.and_eq_true, decide_eq_true_eq] at hp2
      refine XK.skip ?_
      refine XK.seq ?_
      refine XK.region rfl ?_
      refine XO.q (Q.ldA [_, _, _, _] rfl rfl rfl) ?_
      refine XO.q (Q.move rfl) ?_
      refine XO.call Try.call38 rfl rfl rfl (flows_spec h vr vw vb vc hb (hcheck_ok (Decidable.of_not_not c0)) pump hp2.1 hp2.2) fun v17 s17 R17 => ?_
      obtain ⟨k1, rfl, O1⟩ := R17
      dsimp only [List.cons_append, List.nil_append]
      refine XO.q (Q.assign rfl) ?_
      refine XO.q (Q.assign rfl) ?_
      refine XO.done ?_
      refine XK.rt [k1] Try.func10 Try.results10 (.t rfl (.t rfl .n)) ?_
      have hw0 : flowsG h pump = (flowsL h pump, 0) := by rw [flowsG, if_neg c0, if_neg (by simpa using hpp)]
      rw [hw0]
      exact ⟨_, k1, rfl, rfl, O1⟩
end Go.X

set_option linter.unusedSimpArgs false
set_option linter.unusedVariables false
set_option maxRecDepth 20000
namespace Go.X
open Go.Proofs
theorem at_spec (h : Hall) (vr vw vb vc : Value) (hb hc : PHeap) [ir : One vr] [iw : One vw] [ib : Arr vb encBranch 3 hb h.branches] [ic : Arr vc encCooler 5 hc h.coolers] (ok : HOk h) (t : List Int) (vt : Value) (ht : PHeap) [it : Arr vt encI 1 ht t] (tk : TOk h t) (c : HCase) (ck : COk h c) (vl : Value) [il : One vl] :
    Spec Try.prog 44 #[.agg #[vr, vw, vb, vc], vt, .agg #[vl, .int .i64 c.out, .int .i64 c.pump]] [] [hb, hc, ht] (fun v hs => ∃ b vk k, v = ptr b 0 ∧ hs = [blk b [vr, vw, vb, vc, vl, .int .i64 c.out, .int .i64 c.pump, vt, vk] 109, k] ∧ OArr vk encI 1 3 k (takenL h t c.pump)) := by
  have hnil : OArr (.slice none 0 0) encI 1 3 emp ([] : List Int) := OArr.nil (fun _ => rfl)
  have hb2 := ok.b2
  have hc2 := ok.c2
  have hfl := flows_len h c.pump
  have htl := tk.len
  have hpm := ck.pump
  refine Spec.intro (fn := Try.f44) (N := 88) Try.func44 rfl Try.ntmps44 rfl fun B => ?_
  refine XK.seq ?_
  refine XK.region rfl ?_
  refine XO.box rfl fun b3 => ?_
  refine XO.box rfl fun b5 => ?_
  refine XO.q (Q.assign rfl) ?_
  refine XO.done ?_
  refine XK.seq ?_
  refine XK.region rfl ?_
  refine XO.q (Q.ldA [_, _, _, _] rfl rfl rfl) ?_
  refine XO.q (Q.ldA [_, _, _] rfl rfl rfl) ?_
  refine XO.q (Q.move rfl) ?_
  refine XO.q (Q.build [_, _, _, _, _, _, _, _, _] (.c 0 4 rfl rfl rfl (.c 4 3 rfl rfl rfl (.c 7 1 rfl rfl rfl (.n _))))) ?_
  refine XO.box rfl fun b19 => ?_
  refine XO.q (Q.assign rfl) ?_
  refine XO.done ?_
  refine XK.seq ?_
  refine XK.region rfl ?_
  refine XO.q (Q.ldA [_, _, _, _] rfl rfl rfl) ?_
  refine XO.q (Q.fieldAddr rfl) ?_
  refine XO.q (Q.ld rfl rfl) ?_
  refine XO.call Try.call38 rfl rfl rfl (flows_spec h vr vw vb vc hb ok c.pump ck.pump.1 ck.pump.2) fun v23 s23 R23 => ?_
  obtain ⟨k23, rfl, O23⟩ := R23
  dsimp only [List.cons_append, List.nil_append]
  refine XO.q (Q.assign rfl) ?_
  refine XO.done ?_
  refine XK.seq ?_
  refine XK.region rfl ?_
  refine XO.q (Q.move rfl) ?_
  refine XO.len rfl fun l25 => ?_
  rw [hfl]
  refine XO.make encI (0) rfl rfl rfl (by omega) (by omega) (fun _ => rfl) rfl rfl rfl (by dsimp only [encI]; infer_instance) fun v26 h26 O26 => ?_
  refine XO.q (Q.assign rfl) ?_
  refine XO.done ?_
  refine XK.seq ?_
  refine XK.seq ?_
  refine XK.region rfl ?_
  refine XO.q (Q.fieldAddr rfl) ?_
  refine XO.q (Q.ld rfl rfl) ?_
  refine XO.len rfl fun l29 => ?_
  refine XO.q (Q.move rfl) ?_
  refine XO.done ?_
  refine XK.block ?_
  refine XK.while (X := Nat × PHeap × List Int) [11, 30, 31, 32, 33, 34, 35, 36, 37, 38, 39, 40, 41] (fun ⟨k, hz, on⟩ => [(30, some (.int .i64 (k : Nat)))]) (fun ⟨k, hz, on⟩ => [hz]) (fun ⟨k, hz, on⟩ => k ≤ h.coolers.length ∧ on.length = h.branches.length ∧ (∀ b : Int, 0 ≤ b → b < h.branches.length → on.getD b.toNat 0 = onBr h b k) ∧ OArr v26 encI 1 3 hz on) (fun ⟨k, hz, on⟩ => h.coolers.length - k) (0, h26, _) [h26] rfl ⟨by omega, by simp, fun b h1 h2 => by rw [List.getD_eq_getElem?_getD, List.getElem?_replicate]; split <;> rfl, O26⟩ (.c rfl (.base 0 rfl rfl)) ?_
  rintro ⟨k, hz, on⟩ ⟨hk, hol, hon, OZ⟩ ih0
  dsimp only [List.cons_append, List.nil_append] at ih0 ⊢
  refine XK.seq ?_
  refine XK.region rfl ?_
  refine XO.q (Q.lss rfl rfl) ?_
  refine XO.done ?_
  refine XK.seq ?_
  refine XK.if rfl (fun c0 => ?_) (fun c0 => ?_)
  · have _t0 := True.intro
    have hcf := ok.cooler k (by omega)
    have hbt : (h.coolers.getD k default).br.toNat < on.length := by omega
    have hov := onBr_rng (h := h) (h.coolers.getD k default).br k
    have hoe := hon (h.coolers.getD k default).br hcf.2.1.1 hcf.2.1.2
    change on.getD (h.coolers.getD k default).br.toNat default = _ at hoe
    refine XK.skip ?_
    refine XK.seq ?_
    refine XK.block ?_
    refine XK.seq ?_
    refine XK.region rfl ?_
    refine XO.ix rfl rfl (by omega) (by omega) fun i32 => ?_
    refine XO.q (Q.ldEA [_, _, _, _, _] rfl (by first | assumption | omega) rfl rfl) ?_
    refine XO.alloc fun b11 => ?_
    refine XO.st rfl rfl rfl ?_
    refine XO.done ?_
    refine XK.region rfl ?_
    refine XO.q (Q.move rfl) ?_
    refine XO.q (Q.fieldAddr rfl) ?_
    refine XO.q (Q.ld rfl rfl) ?_
    refine XO.ix rfl rfl (by omega) (by omega) fun i37 => ?_
    refine XO.q (Q.ldE rfl (by first | assumption | omega) rfl) ?_
    refine XO.q (Q.add rfl rfl ⟨by omega, by omega⟩) ?_
    refine XO.ix rfl rfl (by omega) (by omega) fun i40 => ?_
    refine XO.stE _ rfl rfl rfl (by assumption) rfl rfl fun h7_7 O7_7 => ?_
    refine XO.done ?_
    refine XK.inBlock ?_
    refine XK.region rfl ?_
    refine XO.q (Q.add rfl rfl ⟨by omega, by omega⟩) ?_
    refine XO.q (Q.move rfl) ?_
    refine XO.done ?_
    exact ih0 (k + 1, h7_7, _) _ _ ⟨by dsimp only; omega, by simp only [List.length_set]; exact hol, fun b h1 h2 => by
        dsimp only
        rw [List.getD_eq_getElem?_getD, List.getElem?_set, onBr_succ]
        by_cases hbb : (h.coolers.getD k default).br = b
        · rw [if_pos (by rw [hbb]), if_pos hbt, if_pos hbb, Option.getD_some, hoe, hbb]
        · rw [if_neg (by omega), ← List.getD_eq_getElem?_getD, hon b h1 h2, if_neg hbb, Int.add_zero], O7_7⟩ (by first | omega | (dsimp only; omega)) (.c rfl (.base 27 rfl rfl)) inferInstance
  · have _t0 := True.intro
    have hkn : k = h.coolers.length := by omega
    rw [hkn] at hon
    clear ih0 hk hkn c0
    refine XK.exit rfl ?_
    refine XK.seq ?_
    refine XK.seq ?_
    refine XK.region rfl ?_
    refine XO.q (Q.fieldAddr rfl) ?_
    refine XO.q (Q.ld rfl rfl) ?_
    refine XO.len rfl fun l44 => ?_
    refine XO.q (Q.move rfl) ?_
    refine XO.done ?_
    refine XK.block ?_
    refine XK.while (X := Nat × Value × PHeap) [13, 14, 45, 46, 47, 48, 49, 50, 51, 52, 53, 54, 55, 56, 57, 58, 59, 60, 61, 62, 63, 64, 65, 66, 67, 68, 69, 70, 71, 72, 73, 74, 75, 76, 77, 78, 79, 80, 81, 82, 83, 84, 85, 86] (fun ⟨k, vk, hk9⟩ => [(45, some (.int .i64 (k : Nat)))]) (fun ⟨k, vk, hk9⟩ => [blk b19 [vr, vw, vb, vc, vl, .int .i64 c.out, .int .i64 c.pump, vt, vk] 109, hk9]) (fun ⟨k, vk, hk9⟩ => k ≤ h.coolers.length ∧ OArr vk encI 1 3 hk9 ((List.range k).map (takenAt h t (flowsL h c.pump)))) (fun ⟨k, vk, hk9⟩ => h.coolers.length - k) (0, .slice none 0 0, emp) [blk b19 [vr, vw, vb, vc, vl, .int .i64 c.out, .int .i64 c.pump, vt, .slice none 0 0] 109, emp] rfl ⟨by omega, by simpa using hnil⟩ (.c rfl (.base 0 rfl rfl)) ?_
    rintro ⟨k, vk, hk9⟩ ⟨hk, OK⟩ ih1
    dsimp only [List.cons_append, List.nil_append] at ih1 ⊢
    refine XK.seq ?_
    refine XK.region rfl ?_
    refine XO.q (Q.lss rfl rfl) ?_
    refine XO.done ?_
    refine XK.seq ?_
    refine XK.if rfl (fun c1 => ?_) (fun c1 => ?_)
    · have _t1 := True.intro
      have hcf := ok.cooler k (by omega)
      have hoe := hon (h.coolers.getD k default).br hcf.2.1.1 hcf.2.1.2
      change on.getD (h.coolers.getD k default).br.toNat default = _ at hoe
      have hop := onBr_pos (h := h) (k := k) (by omega)
      have hor := onBr_rng (h := h) (h.coolers.getD k default).br h.coolers.length
      have hF := flows_rng ok ck.pump.1 (h.coolers.getD k default).br.toNat (by omega)
      change 0 ≤ (flowsL h c.pump).getD (h.coolers.getD k default).br.toNat default ∧ (flowsL h c.pump).getD (h.coolers.getD k default).br.toNat default ≤ c.pump at hF
      have hm1 := mul_abs (p := (h.coolers.getD k default).carry) (d := (flowsL h c.pump).getD (h.coolers.getD k default).br.toNat default) (P := 1000) (D := 100000) hcf.2.2.2.1.1 hcf.2.2.2.1.2 (by omega) (by omega) (by omega)
      have hm0 := Int.mul_nonneg hcf.2.2.2.1.1 hF.1
      have hT := temp_at ok tk hcf.1.1 hcf.1.2
      change 0 ≤ t.getD (h.coolers.getD k default).room.toNat default ∧ t.getD (h.coolers.getD k default).room.toNat default ≤ 1000000 at hT
      have hm2 := mul_abs (p := (h.coolers.getD k default).gain) (d := t.getD (h.coolers.getD k default).room.toNat default - (h.coolers.getD k default).supply) (P := 100000) (D := 1000000) hcf.2.2.1.1 hcf.2.2.1.2 (by omega) (by omega) (by omega)
      refine XK.skip ?_
      refine XK.seq ?_
      refine XK.block ?_
      refine XK.seq ?_
      refine XK.region rfl ?_
      refine XO.ix rfl rfl (by omega) (by omega) fun i47 => ?_
      refine XO.q (Q.ldEA [_, _, _, _, _] rfl (by first | assumption | omega) rfl rfl) ?_
      refine XO.alloc fun b13 => ?_
      refine XO.st rfl rfl rfl ?_
      refine XO.done ?_
      refine XK.seq ?_
      refine XK.drawn [0, 1, 2, 3, 4, 5, 6, 7, 8, 9, 10, 11, 12, 13, 14] [b13] [k23, hz] (.q 0 (.q 1 (.q 2 (.q 3 (.q 4 (.q 5 (.q 6 (.q 7 (.q 8 (.q 9 (.q 10 (.q 11 (.q 12 (.q 13 (.q 14 .done))))))))))))))) Try.mixed rfl (by kernel_rfl) ?_
      refine XT.q rfl rfl (Q.fieldAddr rfl) ?_
      refine XT.q rfl rfl (Q.ld rfl rfl) ?_
      refine XT.q rfl rfl (Q.move rfl) ?_
      refine XT.q rfl rfl (Q.fieldAddr rfl) ?_
      refine XT.q rfl rfl (Q.ld rfl rfl) ?_
      refine XT.ix rfl rfl rfl rfl (by omega) (by omega) fun i54 => ?_
      refine XT.q rfl rfl (Q.ldE rfl (by first | assumption | omega) rfl) ?_
      refine XT.q rfl rfl (Q.mul rfl rfl ⟨by omega, by omega⟩) ?_
      refine XT.q rfl rfl (Q.move rfl) ?_
      refine XT.q rfl rfl (Q.fieldAddr rfl) ?_
      refine XT.q rfl rfl (Q.ld rfl rfl) ?_
      refine XT.ix rfl rfl rfl rfl (by omega) (by omega) fun i60 => ?_
      refine XT.q rfl rfl (Q.ldE rfl (by first | assumption | omega) rfl) ?_
      refine XT.q rfl rfl (Q.quo rfl rfl (by omega) (by omega) (by omega)) ?_
      refine XT.q rfl rfl (Q.assign rfl) ?_
      refine XT.done ?_
      refine XK.drawn [0, 1, 2, 3, 5, 6, 7, 8, 9, 10, 11, 12, 13, 14, 15, 16, 17, 18, 21, 22] [b13] [] (.q 0 (.q 1 (.q 2 (.q 3 (.q 5 (.q 6 (.q 7 (.q 8 (.q 9 (.q 10 (.q 11 (.q 12 (.q 13 (.q 14 (.q 15 (.q 16 (.q 17 (.q 18 (.br 4 true (.br 19 true (.br 20 true (.q 21 (.q 22 (.br 23 true .done .stop))) .stop) .stop) (.br 19 true (.br 4 true (.br 20 true (.q 21 (.q 22 (.br 23 true .done .stop))) .stop) .stop) .stop)))))))))))))))))))) Try.mixed rfl (by kernel_rfl) ?_
      refine XT.q rfl rfl (Q.move rfl) ?_
      refine XT.q rfl rfl (Q.move rfl) ?_
      refine XT.q rfl rfl (Q.nilCheck rfl) ?_
      refine XT.q rfl rfl (Q.fieldAddr rfl) ?_
      refine XT.q rfl rfl (Q.fieldAddr rfl) ?_
      refine XT.q rfl rfl (Q.ld rfl rfl) ?_
      refine XT.q rfl rfl (Q.move rfl) ?_
      refine XT.q rfl rfl (Q.fieldAddr rfl) ?_
      refine XT.q rfl rfl (Q.ld rfl rfl) ?_
      refine XT.ix rfl rfl rfl rfl (by omega) (by omega) fun i73 => ?_
      refine XT.q rfl rfl (Q.ldE rfl (by first | assumption | omega) rfl) ?_
      refine XT.q rfl rfl (Q.fieldAddr rfl) ?_
      refine XT.q rfl rfl (Q.ld rfl rfl) ?_
      refine XT.q rfl rfl (Q.sub rfl rfl ⟨by omega, by omega⟩) ?_
      refine XT.q rfl rfl (Q.mul rfl rfl ⟨by omega, by omega⟩) ?_
      refine XT.q rfl rfl (Q.max rfl rfl) ?_
      refine XT.q rfl rfl (Q.move rfl) ?_
      refine XT.q rfl rfl (Q.min rfl rfl) ?_
      refine XT.qs rfl rfl (Q.ld rfl rfl) ⟨inferInstance, ?_⟩ ?_
      · skip
        refine XT.lit [_] [_] [_] encI rfl rfl (by rfl) (by rfl) rfl (by rfl) (by exact .c 0 1 rfl rfl rfl (.n _)) (fun _ => rfl) (by rfl) rfl (by infer_instance) rfl (fun v82 h82 O82 => ⟨inferInstance, ?_⟩) XT.stop
        refine XT.append rfl rfl rfl rfl rfl rfl (by simp only [List.length_map, List.length_range, List.length_cons, List.length_nil]; omega) (fun v83 h83 O83 => ⟨inferInstance, ?_⟩) XT.stop
        refine XT.q rfl rfl (Q.nilCheck rfl) ?_
        refine XT.q rfl rfl (Q.fieldAddr rfl) ?_
        refine XT.st rfl rfl rfl rfl rfl ⟨inferInstance, ?_⟩ XT.stop
        refine XT.done ?_
        refine XK.inBlock ?_
        refine XK.region rfl ?_
        refine XO.q (Q.add rfl rfl ⟨by omega, by omega⟩) ?_
        refine XO.q (Q.move rfl) ?_
        refine XO.done ?_
        exact ih1 (k + 1, v83, h83) _ _ ⟨by dsimp only; omega, by dsimp only; rw [show (List.range (k + 1)).map (takenAt h t (flowsL h c.pump)) = (List.range k).map (takenAt h t (flowsL h c.pump)) ++ [takenAt h t (flowsL h c.pump) k] by rw [List.range_succ, List.map_append]; rfl, takenAt]; rw [hoe] at O83; exact O83⟩ (by first | omega | (dsimp only; omega)) (.c rfl (.base 89 rfl rfl)) inferInstance
      · skip
        refine XT.lit [_] [_] [_] encI rfl rfl (by rfl) (by rfl) rfl (by rfl) (by exact .c 0 1 rfl rfl rfl (.n _)) (fun _ => rfl) (by rfl) rfl (by infer_instance) rfl (fun v82 h82 O82 => ⟨inferInstance, ?_⟩) XT.stop
        refine XT.qs rfl rfl (Q.ld rfl rfl) ⟨inferInstance, ?_⟩ XT.stop
        refine XT.append rfl rfl rfl rfl rfl rfl (by simp only [List.length_map, List.length_range, List.length_cons, List.length_nil]; omega) (fun v83 h83 O83 => ⟨inferInstance, ?_⟩) XT.stop
        refine XT.q rfl rfl (Q.nilCheck rfl) ?_
        refine XT.q rfl rfl (Q.fieldAddr rfl) ?_
        refine XT.st rfl rfl rfl rfl rfl ⟨inferInstance, ?_⟩ XT.stop
        refine XT.done ?_
        refine XK.inBlock ?_
        refine XK.region rfl ?_
        refine XO.q (Q.add rfl rfl ⟨by omega, by omega⟩) ?_
        refine XO.q (Q.move rfl) ?_
        refine XO.done ?_
        exact ih1 (k + 1, v83, h83) _ _ ⟨by dsimp only; omega, by dsimp only; rw [show (List.range (k + 1)).map (takenAt h t (flowsL h c.pump)) = (List.range k).map (takenAt h t (flowsL h c.pump)) ++ [takenAt h t (flowsL h c.pump) k] by rw [List.range_succ, List.map_append]; rfl, takenAt]; rw [hoe] at O83; exact O83⟩ (by first | omega | (dsimp only; omega)) (.c rfl (.base 89 rfl rfl)) inferInstance
    · have _t1 := True.intro
      refine XK.exit rfl ?_
      refine XK.seq ?_
      refine XK.region rfl ?_
      refine XO.q (Q.move rfl) ?_
      refine XO.q (Q.assign rfl) ?_
      refine XO.done ?_
      refine XK.rt [blk b19 [vr, vw, vb, vc, vl, .int .i64 c.out, .int .i64 c.pump, vt, vk] 109, hk9] Try.func44 Try.results44 (.t rfl .n) ?_
      have hkn : k = h.coolers.length := by omega
      rw [hkn] at OK
      exact ⟨b19, vk, hk9, rfl, rfl, OK⟩
end Go.X

set_option linter.unusedSimpArgs false
set_option linter.unusedVariables false
set_option maxRecDepth 20000
namespace Go.X
open Go.Proofs
theorem load_spec (b : Nat) (vr vw vb vc vl vt vk : Value) (c : HCase) (hl : PHeap) [il : Arr vl encI 1 hl c.load] (i : Nat) (hi : i < c.load.length) : Spec Try.prog 79 #[ptr b 0, .int .i64 (i : Nat)] [] [blk b [vr, vw, vb, vc, vl, .int .i64 c.out, .int .i64 c.pump, vt, vk] 109, hl]
    (fun v hs => v = .int .i64 (c.load.getD i 0) ∧ hs = []) := by
  refine Spec.intro (fn := Try.f79) (N := 13) Try.func79 rfl Try.ntmps79 rfl fun B => ?_
  refine XK.seq ?_
  refine XK.region rfl ?_
  refine XO.q (Q.assign rfl) ?_
  refine XO.done ?_
  refine XK.seq ?_
  refine XK.region rfl ?_
  refine XO.q (Q.move rfl) ?_
  refine XO.q (Q.nilCheck rfl) ?_
  refine XO.q (Q.fieldAddr rfl) ?_
  refine XO.q (Q.fieldAddr rfl) ?_
  refine XO.q (Q.ld rfl rfl) ?_
  refine XO.q (Q.move rfl) ?_
  refine XO.ix rfl rfl (by omega) (by omega) fun i11 => ?_
  refine XO.q (Q.ldE rfl (by first | assumption | omega) rfl) ?_
  refine XO.q (Q.assign rfl) ?_
  refine XO.done ?_
  refine XK.rt [] Try.func79 Try.results79 (.t rfl .n) ?_
  exact ⟨rfl, rfl⟩
theorem walls_spec (h : Hall) (ok : HOk h) (b : Nat) (vr vw vb vc vl vt vk : Value) (c : HCase) (hw ht : PHeap) [iw : Arr vw encWall 3 hw h.walls] (t : List Int) [it : Arr vt encI 1 ht t] (tk : TOk h t) (ck : COk h c) (i : Nat) (hi : i < h.rooms.length) :
    Spec Try.prog 80 #[ptr b 0, .int .i64 (i : Nat)] [] [blk b [vr, vw, vb, vc, vl, .int .i64 c.out, .int .i64 c.pump, vt, vk] 109, hw, ht] (fun v hs => v = .int .i64 (sumTo (wheat h t c.out i) h.walls.length) ∧ hs = []) := by
  have hw2 := ok.w2
  have htl := tk.len
  have hco := ck.out
  have hI := tk.rng i (by omega)
  change 0 ≤ t.getD i default ∧ t.getD i default ≤ 1000000 at hI
  refine Spec.intro (fn := Try.f80) (N := 81) Try.func80 rfl Try.ntmps80 rfl fun B => ?_
  refine XK.seq ?_
  refine XK.region rfl ?_
  refine XO.q (Q.assign rfl) ?_
  refine XO.done ?_
  refine XK.seq ?_
  refine XK.region rfl ?_
  refine XO.q (Q.assign rfl) ?_
  refine XO.done ?_
  refine XK.seq ?_
  refine XK.seq ?_
  refine XK.region rfl ?_
  refine XO.q (Q.move rfl) ?_
  refine XO.q (Q.nilCheck rfl) ?_
  refine XO.q (Q.fieldAddr rfl) ?_
  refine XO.q (Q.fieldAddr rfl) ?_
  refine XO.q (Q.ld rfl rfl) ?_
  refine XO.len rfl fun l14 => ?_
  refine XO.q (Q.move rfl) ?_
  refine XO.done ?_
  refine XK.block ?_
  refine XK.while (X := Nat) [5, 7, 8, 15, 16, 17, 18, 19, 20, 21, 22, 23, 24, 25, 26, 27, 28, 29, 30, 31, 32, 33, 34, 35, 36, 37, 38, 39, 40, 41, 42, 43, 44, 45, 46, 47, 48, 49, 50, 51, 52, 53, 54, 55, 56, 57, 58, 59, 60, 61, 62, 63, 64, 65, 66, 67, 68, 69, 70, 71, 72, 73, 74, 75, 76, 77, 78, 79] (fun k => [(15, some (.int .i64 (k : Nat))), (5, some (.int .i64 (sumTo (wheat h t c.out i) k)))]) (fun k => []) (fun k => k ≤ h.walls.length) (fun k => h.walls.length - k) (0) [] rfl (by omega) (.c rfl (.c rfl (.base 0 rfl rfl))) ?_
  rintro k hk ih0
  dsimp only [List.cons_append, List.nil_append] at ih0 ⊢
  refine XK.seq ?_
  refine XK.region rfl ?_
  refine XO.q (Q.lss rfl rfl) ?_
  refine XO.done ?_
  refine XK.seq ?_
  refine XK.if rfl (fun c0 => ?_) (fun c0 => ?_)
  · have _t0 := True.intro
    have hwf := ok.wall k (by omega)
    have hsw := wsum_abs ok tk hco hi (n := k) (by omega)
    have hA := temp_at ok tk hwf.1.1 hwf.1.2
    change 0 ≤ t.getD (h.walls.getD k default).a.toNat default ∧ t.getD (h.walls.getD k default).a.toNat default ≤ 1000000 at hA
    refine XK.skip ?_
    refine XK.seq ?_
    refine XK.block ?_
    refine XK.seq ?_
    refine XK.region rfl ?_
    refine XO.ix rfl rfl (by omega) (by omega) fun i17 => ?_
    refine XO.q (Q.ldEA [_, _, _] rfl (by first | assumption | omega) rfl rfl) ?_
    refine XO.alloc fun b7 => ?_
    refine XO.st rfl rfl rfl ?_
    refine XO.done ?_
    refine XK.seq ?_
    refine XK.region rfl ?_
    refine XO.q (Q.move rfl) ?_
    refine XO.q (Q.nilCheck rfl) ?_
    refine XO.q (Q.fieldAddr rfl) ?_
    refine XO.q (Q.fieldAddr rfl) ?_
    refine XO.q (Q.ld rfl rfl) ?_
    refine XO.q (Q.assign rfl) ?_
    refine XO.done ?_
    refine XK.seq ?_
    refine XK.seq ?_
    refine XK.region rfl ?_
    refine XO.q (Q.fieldAddr rfl) ?_
    refine XO.q (Q.ld rfl rfl) ?_
    refine XO.q (Q.geq rfl rfl) ?_
    refine XO.done ?_
    refine XK.meet (X := Int) [8, 27, 28, 29, 30, 31, 32, 33, 34] (fun y => [(8, some (.int .i64 y))]) (fun y => []) (fun y => y = (if 0 ≤ (h.walls.getD k default).b then t.getD (h.walls.getD k default).b.toNat 0 else c.out) ∧ 0 ≤ y ∧ y ≤ 1000000) [] ?_ ?_
    · rintro y ⟨hy, hy1, hy2⟩
      dsimp only [List.cons_append, List.nil_append]
      refine XK.seq ?_
      refine XK.region rfl ?_
      refine XO.q (Q.move rfl) ?_
      refine XO.done ?_
      refine XK.block ?_
      refine XK.seq ?_
      refine XK.region rfl ?_
      refine XO.q (Q.fieldAddr rfl) ?_
      refine XO.q (Q.ld rfl rfl) ?_
      refine XO.q (Q.eql rfl rfl) ?_
      refine XO.q (Q.assign rfl) ?_
      refine XO.done ?_
      refine XK.if rfl (fun c2 => ?_) (fun c2 => ?_)
      · have _t2 := True.intro
        have hm := mul_abs (p := (h.walls.getD k default).pass) (d := y - t.getD i default) (P := 100000) (D := 1000000) hwf.2.2.2.1 hwf.2.2.2.2 (by omega) (by omega) (by omega)
        refine XK.drawn [0, 1, 2, 3, 4, 5, 6, 7, 8, 9, 10, 11, 12, 13, 14] [b7, b] [] (.q 0 (.q 1 (.q 2 (.q 3 (.q 4 (.q 5 (.q 6 (.q 7 (.q 8 (.q 9 (.q 10 (.q 11 (.q 12 (.q 13 (.q 14 .done))))))))))))))) Try.mixed rfl (by kernel_rfl) ?_
        refine XT.q rfl rfl (Q.move rfl) ?_
        refine XT.q rfl rfl (Q.fieldAddr rfl) ?_
        refine XT.q rfl rfl (Q.ld rfl rfl) ?_
        refine XT.q rfl rfl (Q.move rfl) ?_
        refine XT.q rfl rfl (Q.move rfl) ?_
        refine XT.q rfl rfl (Q.nilCheck rfl) ?_
        refine XT.q rfl rfl (Q.fieldAddr rfl) ?_
        refine XT.q rfl rfl (Q.ld rfl rfl) ?_
        refine XT.q rfl rfl (Q.move rfl) ?_
        refine XT.ix rfl rfl rfl rfl (by omega) (by omega) fun i49 => ?_
        refine XT.q rfl rfl (Q.ldE rfl (by first | assumption | omega) rfl) ?_
        refine XT.q rfl rfl (Q.sub rfl rfl ⟨by omega, by omega⟩) ?_
        refine XT.q rfl rfl (Q.mul rfl rfl ⟨by omega, by omega⟩) ?_
        refine XT.q rfl rfl (Q.add rfl rfl ⟨by omega, by omega⟩) ?_
        refine XT.q rfl rfl (Q.assign rfl) ?_
        refine XT.done ?_
        refine XK.inBlock ?_
        refine XK.inBlock ?_
        refine XK.region rfl ?_
        refine XO.q (Q.add rfl rfl ⟨by omega, by omega⟩) ?_
        refine XO.q (Q.move rfl) ?_
        refine XO.done ?_
        rw [show sumTo (wheat h t c.out i) k + (h.walls.getD k default).pass * (y - t.getD i default) = sumTo (wheat h t c.out i) (k + 1) by rw [sumTo, wheat, if_pos c2.symm, ← hy]; rfl]
        exact ih0 (k + 1) _ _ (by omega) (by first | omega | (dsimp only; omega)) (.c rfl (.c rfl (.base 115 rfl rfl))) inferInstance
      · have _t2 := True.intro
        refine XK.seq ?_
        refine XK.region rfl ?_
        refine XO.q (Q.fieldAddr rfl) ?_
        refine XO.q (Q.ld rfl rfl) ?_
        refine XO.q (Q.eql rfl rfl) ?_
        refine XO.q (Q.assign rfl) ?_
        refine XO.done ?_
        refine XK.if rfl (fun c3 => ?_) (fun c3 => ?_)
        · have _t3 := True.intro
          have hm := mul_abs (p := (h.walls.getD k default).pass) (d := t.getD (h.walls.getD k default).a.toNat default - t.getD i default) (P := 100000) (D := 1000000) hwf.2.2.2.1 hwf.2.2.2.2 (by omega) (by omega) (by omega)
          refine XK.drawn [0, 1, 2, 3, 4, 5, 6, 7, 8, 9, 10, 11, 12, 13, 14, 15, 16, 17, 18, 19, 20, 21] [b7, b] [] (.q 0 (.q 1 (.q 2 (.q 3 (.q 4 (.q 5 (.q 6 (.q 7 (.q 8 (.q 9 (.q 10 (.q 11 (.q 12 (.q 13 (.q 14 (.q 15 (.q 16 (.q 17 (.q 18 (.q 19 (.q 20 (.q 21 .done)))))))))))))))))))))) Try.mixed rfl (by kernel_rfl) ?_
          refine XT.q rfl rfl (Q.move rfl) ?_
          refine XT.q rfl rfl (Q.fieldAddr rfl) ?_
          refine XT.q rfl rfl (Q.ld rfl rfl) ?_
          refine XT.q rfl rfl (Q.move rfl) ?_
          refine XT.q rfl rfl (Q.nilCheck rfl) ?_
          refine XT.q rfl rfl (Q.fieldAddr rfl) ?_
          refine XT.q rfl rfl (Q.ld rfl rfl) ?_
          refine XT.q rfl rfl (Q.fieldAddr rfl) ?_
          refine XT.q rfl rfl (Q.ld rfl rfl) ?_
          refine XT.ix rfl rfl rfl rfl (by omega) (by omega) fun i67 => ?_
          refine XT.q rfl rfl (Q.ldE rfl (by first | assumption | omega) rfl) ?_
          refine XT.q rfl rfl (Q.move rfl) ?_
          refine XT.q rfl rfl (Q.nilCheck rfl) ?_
          refine XT.q rfl rfl (Q.fieldAddr rfl) ?_
          refine XT.q rfl rfl (Q.ld rfl rfl) ?_
          refine XT.q rfl rfl (Q.move rfl) ?_
          refine XT.ix rfl rfl rfl rfl (by omega) (by omega) fun i74 => ?_
          refine XT.q rfl rfl (Q.ldE rfl (by first | assumption | omega) rfl) ?_
          refine XT.q rfl rfl (Q.sub rfl rfl ⟨by omega, by omega⟩) ?_
          refine XT.q rfl rfl (Q.mul rfl rfl ⟨by omega, by omega⟩) ?_
          refine XT.q rfl rfl (Q.add rfl rfl ⟨by omega, by omega⟩) ?_
          refine XT.q rfl rfl (Q.assign rfl) ?_
          refine XT.done ?_
          refine XK.inBlock ?_
          refine XK.inBlock ?_
          refine XK.region rfl ?_
          refine XO.q (Q.add rfl rfl ⟨by omega, by omega⟩) ?_
          refine XO.q (Q.move rfl) ?_
          refine XO.done ?_
          rw [show sumTo (wheat h t c.out i) k + (h.walls.getD k default).pass * (t.getD (h.walls.getD k default).a.toNat default - t.getD i default) = sumTo (wheat h t c.out i) (k + 1) by rw [sumTo, wheat, if_neg (Ne.symm c2), if_pos c3.symm]; rfl]
          exact ih0 (k + 1) _ _ (by omega) (by first | omega | (dsimp only; omega)) (.c rfl (.c rfl (.base 126 rfl rfl))) inferInstance
        · have _t3 := True.intro
          refine XK.skip ?_
          refine XK.inBlock ?_
          refine XK.inBlock ?_
          refine XK.region rfl ?_
          refine XO.q (Q.add rfl rfl ⟨by omega, by omega⟩) ?_
          refine XO.q (Q.move rfl) ?_
          refine XO.done ?_
          rw [show sumTo (wheat h t c.out i) k = sumTo (wheat h t c.out i) (k + 1) by rw [sumTo, wheat, if_neg (Ne.symm c2), if_neg (Ne.symm c3), Int.add_zero]]
          exact ih0 (k + 1) _ _ (by omega) (by first | omega | (dsimp only; omega)) (.c rfl (.c rfl (.base 104 rfl rfl))) inferInstance
    · intro mt1
      dsimp only [List.cons_append, List.nil_append] at mt1
      refine XK.if rfl (fun c1 => ?_) (fun c1 => ?_)
      · have _t1 := True.intro
        refine XK.drawn [0, 1, 2, 3, 4, 5, 6, 7, 8] [b, b7] [] (.q 0 (.q 1 (.q 2 (.q 3 (.q 4 (.q 5 (.q 6 (.q 7 (.q 8 .done))))))))) Try.mixed rfl (by kernel_rfl) ?_
        refine XT.q rfl rfl (Q.move rfl) ?_
        refine XT.q rfl rfl (Q.nilCheck rfl) ?_
        refine XT.q rfl rfl (Q.fieldAddr rfl) ?_
        refine XT.q rfl rfl (Q.ld rfl rfl) ?_
        refine XT.q rfl rfl (Q.fieldAddr rfl) ?_
        refine XT.q rfl rfl (Q.ld rfl rfl) ?_
        refine XT.ix rfl rfl rfl rfl (by omega) (by omega) fun i33 => ?_
        refine XT.q rfl rfl (Q.ldE rfl (by first | assumption | omega) rfl) ?_
        refine XT.q rfl rfl (Q.assign rfl) ?_
        refine XT.done ?_
        exact mt1 (_) _ _ ⟨by rw [if_pos c1]; rfl, by have := temp_at ok tk (i := (h.walls.getD k default).b) c1 (by omega); exact this.1, by have := temp_at ok tk (i := (h.walls.getD k default).b) c1 (by omega); exact this.2⟩ (.c rfl (.base 9 rfl rfl)) inferInstance
      · have _t1 := True.intro
        refine XK.skip ?_
        exact mt1 (c.out) _ _ ⟨by rw [if_neg c1], hco.1, hco.2⟩ (.c rfl (.base 0 rfl rfl)) inferInstance
  · have _t0 := True.intro
    refine XK.exit rfl ?_
    refine XK.seq ?_
    refine XK.region rfl ?_
    refine XO.q (Q.move rfl) ?_
    refine XO.q (Q.assign rfl) ?_
    refine XO.done ?_
    refine XK.rt [] Try.func80 Try.results80 (.t rfl .n) ?_
    have hkn : k = h.walls.length := by omega
    rw [hkn]
    exact ⟨rfl, rfl⟩
theorem coolers_spec (h : Hall) (ok : HOk h) (b : Nat) (vr vw vb vc vl vt vk : Value) (c : HCase) (hc hk : PHeap) [ic : Arr vc encCooler 5 hc h.coolers] (t : List Int) (tk : TOk h t) (ck : COk h c) [ik : Arr vk encI 1 hk (takenL h t c.pump)] (i : Nat) :
    Spec Try.prog 81 #[ptr b 0, .int .i64 (i : Nat)] [] [blk b [vr, vw, vb, vc, vl, .int .i64 c.out, .int .i64 c.pump, vt, vk] 109, hc, hk] (fun v hs => v = .int .i64 (sumTo (cheat h (takenL h t c.pump) i) h.coolers.length) ∧ hs = []) := by
  have hc2 := ok.c2
  have hkl : (takenL h t c.pump).length = h.coolers.length := by simp [takenL]
  refine Spec.intro (fn := Try.f81) (N := 34) Try.func81 rfl Try.ntmps81 rfl fun B => ?_
  refine XK.seq ?_
  refine XK.region rfl ?_
  refine XO.q (Q.assign rfl) ?_
  refine XO.done ?_
  refine XK.seq ?_
  refine XK.region rfl ?_
  refine XO.q (Q.assign rfl) ?_
  refine XO.done ?_
  refine XK.seq ?_
  refine XK.seq ?_
  refine XK.region rfl ?_
  refine XO.q (Q.move rfl) ?_
  refine XO.q (Q.nilCheck rfl) ?_
  refine XO.q (Q.fieldAddr rfl) ?_
  refine XO.q (Q.fieldAddr rfl) ?_
  refine XO.q (Q.ld rfl rfl) ?_
  refine XO.len rfl fun l13 => ?_
  refine XO.q (Q.move rfl) ?_
  refine XO.done ?_
  refine XK.block ?_
  refine XK.while (X := Nat) [5, 6, 7, 14, 15, 16, 17, 18, 19, 20, 21, 22, 23, 24, 25, 26, 27, 28, 29, 30, 31, 32] (fun k => [(14, some (.int .i64 (k : Nat))), (5, some (.int .i64 (sumTo (cheat h (takenL h t c.pump) i) k)))]) (fun k => []) (fun k => k ≤ h.coolers.length) (fun k => h.coolers.length - k) (0) [] rfl (by omega) (.c rfl (.c rfl (.base 0 rfl rfl))) ?_
  rintro k hkk ih0
  dsimp only [List.cons_append, List.nil_append] at ih0 ⊢
  refine XK.seq ?_
  refine XK.region rfl ?_
  refine XO.q (Q.lss rfl rfl) ?_
  refine XO.done ?_
  refine XK.seq ?_
  refine XK.if rfl (fun c0 => ?_) (fun c0 => ?_)
  · have _t0 := True.intro
    have hcs := csum_abs ok tk ck.pump.1 ck.pump.2 (i := i) (n := k) (by omega)
    have hct := taken_rng ok tk ck.pump.1 ck.pump.2 (k := k) (by omega)
    rw [← taken_getD ok tk (by omega)] at hct
    change 0 ≤ (takenL h t c.pump).getD k default ∧ (takenL h t c.pump).getD k default ≤ _ at hct
    refine XK.skip ?_
    refine XK.seq ?_
    refine XK.block ?_
    refine XK.seq ?_
    refine XK.region rfl ?_
    refine XO.q (Q.move rfl) ?_
    refine XO.ix rfl rfl (by omega) (by omega) fun i17 => ?_
    refine XO.q (Q.ldEA [_, _, _, _, _] rfl (by first | assumption | omega) rfl rfl) ?_
    refine XO.alloc fun b7 => ?_
    refine XO.q (Q.assign rfl) ?_
    refine XO.st rfl rfl rfl ?_
    refine XO.done ?_
    refine XK.seq ?_
    refine XK.region rfl ?_
    refine XO.q (Q.fieldAddr rfl) ?_
    refine XO.q (Q.ld rfl rfl) ?_
    refine XO.q (Q.move rfl) ?_
    refine XO.q (Q.eql rfl rfl) ?_
    refine XO.done ?_
    refine XK.if rfl (fun c1 => ?_) (fun c1 => ?_)
    · have _t1 := True.intro
      refine XK.region rfl ?_
      refine XO.q (Q.move rfl) ?_
      refine XO.q (Q.move rfl) ?_
      refine XO.q (Q.nilCheck rfl) ?_
      refine XO.q (Q.fieldAddr rfl) ?_
      refine XO.q (Q.ld rfl rfl) ?_
      refine XO.q (Q.move rfl) ?_
      refine XO.ix rfl rfl (by omega) (by omega) fun i29 => ?_
      refine XO.q (Q.ldE rfl (by first | assumption | omega) rfl) ?_
      refine XO.q (Q.sub rfl rfl ⟨by omega, by omega⟩) ?_
      refine XO.q (Q.assign rfl) ?_
      refine XO.done ?_
      refine XK.inBlock ?_
      refine XK.region rfl ?_
      refine XO.q (Q.add rfl rfl ⟨by omega, by omega⟩) ?_
      refine XO.q (Q.move rfl) ?_
      refine XO.done ?_
      rw [show sumTo (cheat h (takenL h t c.pump) i) k - (takenL h t c.pump).getD k default = sumTo (cheat h (takenL h t c.pump) i) (k + 1) by rw [sumTo, cheat, if_pos c1]; exact Int.sub_eq_add_neg ..]
      exact ih0 (k + 1) _ _ (by omega) (by first | omega | (dsimp only; omega)) (.c rfl (.c rfl (.base 46 rfl rfl))) inferInstance
    · have _t1 := True.intro
      refine XK.skip ?_
      refine XK.inBlock ?_
      refine XK.region rfl ?_
      refine XO.q (Q.add rfl rfl ⟨by omega, by omega⟩) ?_
      refine XO.q (Q.move rfl) ?_
      refine XO.done ?_
      rw [show sumTo (cheat h (takenL h t c.pump) i) k = sumTo (cheat h (takenL h t c.pump) i) (k + 1) by rw [sumTo, cheat, if_neg c1, Int.add_zero]]
      exact ih0 (k + 1) _ _ (by omega) (by first | omega | (dsimp only; omega)) (.c rfl (.c rfl (.base 36 rfl rfl))) inferInstance
  · have _t0 := True.intro
    refine XK.exit rfl ?_
    refine XK.seq ?_
    refine XK.region rfl ?_
    refine XO.q (Q.move rfl) ?_
    refine XO.q (Q.assign rfl) ?_
    refine XO.done ?_
    refine XK.rt [] Try.func81 Try.results81 (.t rfl .n) ?_
    have hkn : k = h.coolers.length := by omega
    rw [hkn]
    exact ⟨rfl, rfl⟩
theorem list_get {α : Type} [Inhabited α] {l : List α} {j : Nat} (hj : j < l.length) : l[((j : Nat) : Int).toNat]? = some (l.getD j default) := by
  rw [Int.toNat_natCast, List.getElem?_eq_getElem hj, List.getD_eq_getElem?_getD, List.getElem?_eq_getElem hj]; rfl
theorem carr_spec (h : Hall) (ok : HOk h) (b : Nat) (vr vw vb vc vl vt vk : Value) (c : HCase) (hw hc hl ht hk : PHeap) [iw : Arr vw encWall 3 hw h.walls] [ic : Arr vc encCooler 5 hc h.coolers] [il : Arr vl encI 1 hl c.load] (t : List Int) [it : Arr vt encI 1 ht t] (tk : TOk h t) (ck : COk h c)
    [ik : Arr vk encI 1 hk (takenL h t c.pump)] (i : Nat) (hi : i < h.rooms.length) (j : Nat) (hj : j < 3) :
    VSpec Try.prog (([.func (.func 79) #[ptr b 0] #[], .func (.func 80) #[ptr b 0] #[], .func (.func 81) #[ptr b 0] #[]] : List Value).getD j default) [.int .i64 (i : Nat)] [] [blk b [vr, vw, vb, vc, vl, .int .i64 c.out, .int .i64 c.pump, vt, vk] 109, hw, hc, hl, ht, hk] (fun v hs => v = .int .i64 (([c.load.getD i 0, sumTo (wheat h t c.out i) h.walls.length, sumTo (cheat h (takenL h t c.pump) i) h.coolers.length] : List Int).getD j default) ∧ hs = []) := by
  match j, hj with
  | 0, _ => exact VSpec.fn (fst := [ptr b 0]) (cap := []) (vs := [.int .i64 (i : Nat)]) Try.call79 rfl ((load_spec b vr vw vb vc vl vt vk c hl i (by have := ck.len; omega)).wide (fun x hx => by simp at hx; rcases hx with rfl | rfl <;> simp))
  | 1, _ => exact VSpec.fn (fst := [ptr b 0]) (cap := []) (vs := [.int .i64 (i : Nat)]) Try.call80 rfl ((walls_spec h ok b vr vw vb vc vl vt vk c hw ht t tk ck i hi).wide (fun x hx => by simp at hx; rcases hx with rfl | rfl | rfl <;> simp))
  | 2, _ => exact VSpec.fn (fst := [ptr b 0]) (cap := []) (vs := [.int .i64 (i : Nat)]) Try.call81 rfl ((coolers_spec h ok b vr vw vb vc vl vt vk c hc hk t tk ck i).wide (fun x hx => by simp at hx; rcases hx with rfl | rfl | rfl <;> simp))
theorem three_bd7 {a b c lo hi : Int} (ha : lo ≤ a ∧ a ≤ hi) (hb : lo ≤ b ∧ b ≤ hi) (hc : lo ≤ c ∧ c ≤ hi) {k : Nat} (hk : k < 3) : lo ≤ [a, b, c].getD k default ∧ [a, b, c].getD k default ≤ hi := by
  match k, hk with
  | 0, _ => exact ha
  | 1, _ => exact hb
  | 2, _ => exact hc
theorem sum_three (x a b c : Int) : x + sumTo (fun j => [a, b, c].getD j default) 3 = x + a + b + c := by
  show x + (((0 + a) + b) + c) = _
  omega
theorem next_spec7 (h : Hall) (vr vw vb vc : Value) (hr hw hb hc : PHeap) [ir : Arr vr encRoom 2 hr h.rooms] [iw : Arr vw encWall 3 hw h.walls] [ib : Arr vb encBranch 3 hb h.branches] [ic : Arr vc encCooler 5 hc h.coolers] (ok : HOk h) (t : List Int) (vt : Value) (ht : PHeap) [it : Arr vt encI 1 ht t] (tk : TOk h t)
    (c : HCase) (ck : COk h c) (vl : Value) (hl : PHeap) [il : Arr vl encI 1 hl c.load] : Spec Try.prog 43 #[.agg #[vr, vw, vb, vc], vt, .agg #[vl, .int .i64 c.out, .int .i64 c.pump]] [] [hr, hw, hb, hc, ht, hl] (fun v hs => ∃ k, hs = [k] ∧ OArr v encI 1 3 k (nextL h t c)) := by
  have hnil : OArr (.slice none 0 0) encI 1 3 emp ([] : List Int) := OArr.nil (fun _ => rfl)
  have hr2 := ok.r2
  have htl := tk.len
  refine Spec.intro (fn := Try.f43) (N := 61) Try.func43 rfl Try.ntmps43 rfl fun B => ?_
  refine XK.seq ?_
  refine XK.region rfl ?_
  refine XO.box rfl fun b3 => ?_
  refine XO.box rfl fun b5 => ?_
  refine XO.q (Q.assign rfl) ?_
  refine XO.done ?_
  refine XK.seq ?_
  refine XK.region rfl ?_
  refine XO.q (Q.ldA [_, _, _, _] rfl rfl rfl) ?_
  refine XO.q (Q.move rfl) ?_
  refine XO.q (Q.ldA [_, _, _] rfl rfl rfl) ?_
  refine XO.call Try.call44 rfl rfl rfl (at_spec h vr vw vb vc hb hc ok t vt ht tk c ck vl) fun v18 s18 R18 => ?_
  obtain ⟨b19, vk, hk, rfl, rfl, OK⟩ := R18
  dsimp only [List.cons_append, List.nil_append]
  refine XO.q (Q.assign rfl) ?_
  refine XO.done ?_
  refine XK.seq ?_
  refine XK.region rfl ?_
  refine XO.q (Q.move rfl) ?_
  refine XO.q (Q.func (fun _ he => evs_rel he rfl) (fun _ he => rfl)) ?_
  refine XO.q (Q.move rfl) ?_
  refine XO.q (Q.func (fun _ he => evs_rel he rfl) (fun _ he => rfl)) ?_
  refine XO.q (Q.move rfl) ?_
  refine XO.q (Q.func (fun _ he => evs_rel he rfl) (fun _ he => rfl)) ?_
  refine XO.q (Q.build [_, _, _] (.c 0 1 rfl rfl rfl (.c 1 1 rfl rfl rfl (.c 2 1 rfl rfl rfl (.n _))))) ?_
  refine XO.alloc fun b8 => ?_
  refine XO.st rfl rfl rfl ?_
  refine XO.done ?_
  refine XK.seq ?_
  refine XK.region rfl ?_
  refine XO.q (Q.assign rfl) ?_
  refine XO.done ?_
  refine XK.seq ?_
  refine XK.seq ?_
  refine XK.region rfl ?_
  refine XO.q (Q.fieldAddr rfl) ?_
  refine XO.q (Q.ld rfl rfl) ?_
  refine XO.len rfl fun l28 => ?_
  refine XO.q (Q.move rfl) ?_
  refine XO.done ?_
  refine XK.block ?_
  refine XK.while (X := Nat × Value × PHeap) [9, 10, 11, 12, 14, 29, 30, 31, 32, 33, 34, 35, 36, 37, 38, 39, 40, 41, 42, 43, 44, 45, 46, 47, 48, 49, 50, 51, 52, 53, 54, 55, 56, 57, 58, 59] (fun ⟨i, vO, hO⟩ => [(29, some (.int .i64 (i : Nat))), (9, some (vO))]) (fun ⟨i, vO, hO⟩ => [hO]) (fun ⟨i, vO, hO⟩ => i ≤ h.rooms.length ∧ OArr vO encI 1 3 hO ((List.range i).map (nextAt h t c))) (fun ⟨i, vO, hO⟩ => h.rooms.length - i) (0, .slice none 0 0, emp) [emp] rfl ⟨by omega, by simpa using hnil⟩ (.c rfl (.c rfl (.base 0 rfl rfl))) ?_
  rintro ⟨i, vO, hO⟩ ⟨hi, OO⟩ ih0
  dsimp only [List.cons_append, List.nil_append] at ih0 ⊢
  refine XK.seq ?_
  refine XK.region rfl ?_
  refine XO.q (Q.lss rfl rfl) ?_
  refine XO.done ?_
  refine XK.seq ?_
  refine XK.if rfl (fun c0 => ?_) (fun c0 => ?_)
  · have _t0 := True.intro
    have hrm := ok.room i (by omega)
    have hI := tk.rng i (by omega)
    change 0 ≤ t.getD i default ∧ t.getD i default ≤ 1000000 at hI
    have hm := mul_abs (p := (h.rooms.getD i default).store) (d := t.getD i default) (P := 1000000) (D := 1000000) (by omega) hrm.2.1 (by omega) hI.2 (by omega)
    have hl1 := ck.rng i (by have := ck.len; omega)
    have hw1 := wsum_abs ok tk ck.out (i := i) (n := h.walls.length) (by omega) (Nat.le_refl _)
    have hc1 := csum_abs ok tk ck.pump.1 ck.pump.2 (i := i) (n := h.coolers.length) (Nat.le_refl _)
    have hnn := heat_nonneg ok tk ck (i := i) (by omega)
    have hnu : heatOf h t c i ≤ 10000000000000 := by unfold heatOf; change (h.rooms.getD i default).store * t.getD i default + _ + _ + _ ≤ _; omega
    refine XK.skip ?_
    refine XK.seq ?_
    refine XK.block ?_
    refine XK.seq ?_
    refine XK.region rfl ?_
    refine XO.q (Q.move rfl) ?_
    refine XO.ix rfl rfl (by omega) (by omega) fun i32 => ?_
    refine XO.q (Q.ldEA [_, _] rfl (by first | assumption | omega) rfl rfl) ?_
    refine XO.alloc fun b11 => ?_
    refine XO.q (Q.assign rfl) ?_
    refine XO.st rfl rfl rfl ?_
    refine XO.done ?_
    refine XK.seq ?_
    refine XK.drawn [0, 1, 2, 3, 4, 5, 6, 7] [b11] [] (.q 0 (.q 1 (.q 2 (.q 3 (.q 4 (.q 5 (.q 6 (.q 7 .done)))))))) Try.mixed rfl (by kernel_rfl) ?_
    refine XT.q rfl rfl (Q.fieldAddr rfl) ?_
    refine XT.q rfl rfl (Q.ld rfl rfl) ?_
    refine XT.q rfl rfl (Q.move rfl) ?_
    refine XT.q rfl rfl (Q.move rfl) ?_
    refine XT.ix rfl rfl rfl rfl (by omega) (by omega) fun i38 => ?_
    refine XT.q rfl rfl (Q.ldE rfl (by first | assumption | omega) rfl) ?_
    refine XT.q rfl rfl (Q.mul rfl rfl ⟨by omega, by omega⟩) ?_
    refine XT.q rfl rfl (Q.assign rfl) ?_
    refine XT.done ?_
    refine XK.seq ?_
    refine XK.seq ?_
    refine XK.region rfl ?_
    rw [show (h.rooms.getD i default).store * t.getD i default = (h.rooms.getD i default).store * t.getD i default + sumTo (fun j => ([c.load.getD i 0, sumTo (wheat h t c.out i) h.walls.length, sumTo (cheat h (takenL h t c.pump) i) h.coolers.length] : List Int).getD j default) 0 by rw [sumTo, Int.add_zero]]
    refine XO.q (Q.ldA [_, _, _] rfl rfl rfl) ?_
    refine XO.q (Q.move rfl) ?_
    refine XO.done ?_
    refine XK.block ?_
    refine XK.while (X := Nat) [12, 14, 42, 43, 44, 45, 46, 47, 48, 49, 50] (fun j => [(42, some (.int .i64 (j : Nat))), (12, some (.int .i64 ((h.rooms.getD i default).store * t.getD i default + sumTo (fun j => ([c.load.getD i 0, sumTo (wheat h t c.out i) h.walls.length, sumTo (cheat h (takenL h t c.pump) i) h.coolers.length] : List Int).getD j default) j)))]) (fun j => []) (fun j => j ≤ 3) (fun j => 3 - j) (0) [] rfl (by omega) (.c rfl (.c rfl (.base 0 rfl rfl))) ?_
    rintro j hj ih1
    dsimp only [List.cons_append, List.nil_append] at ih1 ⊢
    refine XK.seq ?_
    refine XK.region rfl ?_
    refine XO.q (Q.lss rfl rfl) ?_
    refine XO.done ?_
    refine XK.seq ?_
    refine XK.if rfl (fun c1 => ?_) (fun c1 => ?_)
    · have _t1 := True.intro
      have hpj : -1600000000000 ≤ ([c.load.getD i 0, sumTo (wheat h t c.out i) h.walls.length, sumTo (cheat h (takenL h t c.pump) i) h.coolers.length] : List Int).getD j default ∧ ([c.load.getD i 0, sumTo (wheat h t c.out i) h.walls.length, sumTo (cheat h (takenL h t c.pump) i) h.coolers.length] : List Int).getD j default ≤ 1600000000000 := three_bd7 (by omega) hw1 hc1 (by omega)
      have hsj := sum_abs (f := (fun j => ([c.load.getD i 0, sumTo (wheat h t c.out i) h.walls.length, sumTo (cheat h (takenL h t c.pump) i) h.coolers.length] : List Int).getD j default)) (n := j) (M := 1600000000000) fun k hk => three_bd7 (by omega) hw1 hc1 (by omega)
      refine XK.skip ?_
      refine XK.seq ?_
      refine XK.block ?_
      refine XK.seq ?_
      refine XK.region rfl ?_
      refine XO.q (Q.index1 (v := ([.func (.func 79) #[ptr b19 0] #[], .func (.func 80) #[ptr b19 0] #[], .func (.func 81) #[ptr b19 0] #[]] : List Value).getD j default) rfl rfl (by omega) (by omega) (list_get (by show j < 3; omega))) ?_
      refine XO.q (Q.assign rfl) ?_
      refine XO.done ?_
      refine XK.region rfl ?_
      refine XO.q (Q.move rfl) ?_
      refine XO.q (Q.move rfl) ?_
      refine XO.q (Q.move rfl) ?_
      refine XO.vcall rfl rfl (carr_spec h ok b19 vr vw vb vc vl vt vk c hw hc hl ht hk t tk ck i (by omega) j (by omega)) fun v48 s48 R48 => ?_
      obtain ⟨rfl, rfl⟩ := R48
      dsimp only [List.cons_append, List.nil_append]
      refine XO.q (Q.add rfl rfl ⟨by omega, by omega⟩) ?_
      refine XO.q (Q.assign rfl) ?_
      refine XO.done ?_
      refine XK.inBlock ?_
      refine XK.region rfl ?_
      refine XO.q (Q.add rfl rfl ⟨by omega, by omega⟩) ?_
      refine XO.q (Q.move rfl) ?_
      refine XO.done ?_
      rw [show (h.rooms.getD i default).store * t.getD i default + sumTo (fun j => ([c.load.getD i 0, sumTo (wheat h t c.out i) h.walls.length, sumTo (cheat h (takenL h t c.pump) i) h.coolers.length] : List Int).getD j default) j + ([c.load.getD i 0, sumTo (wheat h t c.out i) h.walls.length, sumTo (cheat h (takenL h t c.pump) i) h.coolers.length] : List Int).getD j default = (h.rooms.getD i default).store * t.getD i default + sumTo (fun j => ([c.load.getD i 0, sumTo (wheat h t c.out i) h.walls.length, sumTo (cheat h (takenL h t c.pump) i) h.coolers.length] : List Int).getD j default) (j + 1) by rw [sumTo, Int.add_assoc]]
      exact ih1 (j + 1) _ _ (by omega) (by first | omega | (dsimp only; omega)) (.c rfl (.c rfl (.base 24 rfl rfl))) inferInstance
    · have _t1 := True.intro
      have hj3 : j = 3 := by omega
      rw [hj3]
      rw [show (h.rooms.getD i default).store * t.getD i default + sumTo (fun j => ([c.load.getD i 0, sumTo (wheat h t c.out i) h.walls.length, sumTo (cheat h (takenL h t c.pump) i) h.coolers.length] : List Int).getD j default) 3 = heatOf h t c i by rw [heatOf]; exact sum_three ..]
      refine XK.exit rfl ?_
      refine XK.region rfl ?_
      refine XO.q (Q.move rfl) ?_
      refine XO.q (Q.move rfl) ?_
      refine XO.q (Q.fieldAddr rfl) ?_
      refine XO.q (Q.ld rfl rfl) ?_
      refine XO.q (Q.quo rfl rfl (by omega) (by omega) (by omega)) ?_
      refine XO.q (Q.min rfl rfl) ?_
      refine XO.lit [_] [_] [_] encI (by rfl) (by rfl) rfl (by rfl) (by exact .c 0 1 rfl rfl rfl (.n _)) (fun _ => rfl) (by rfl) rfl (by infer_instance) rfl fun v57 h57 O57 => ?_
      refine XO.append rfl rfl rfl rfl (by simp only [List.length_map, List.length_range, List.length_cons, List.length_nil]; omega) fun v58 h58 O58 => ?_
      refine XO.q (Q.assign rfl) ?_
      refine XO.done ?_
      refine XK.inBlock ?_
      refine XK.region rfl ?_
      refine XO.q (Q.add rfl rfl ⟨by omega, by omega⟩) ?_
      refine XO.q (Q.move rfl) ?_
      refine XO.done ?_
      exact ih0 (i + 1, v58, h58) _ _ ⟨by dsimp only; omega, by dsimp only; rw [show (List.range (i + 1)).map (nextAt h t c) = (List.range i).map (nextAt h t c) ++ [nextAt h t c i] by rw [List.range_succ, List.map_append]; rfl]; exact O58⟩ (by first | omega | (dsimp only; omega)) (.c rfl (.c rfl (.base 79 rfl rfl))) inferInstance
  · have _t0 := True.intro
    refine XK.exit rfl ?_
    refine XK.seq ?_
    refine XK.region rfl ?_
    refine XO.q (Q.move rfl) ?_
    refine XO.q (Q.assign rfl) ?_
    refine XO.done ?_
    refine XK.rt [hO] Try.func43 Try.results43 (.t rfl .n) ?_
    have hin : i = h.rooms.length := by omega
    rw [hin] at OO
    exact ⟨hO, rfl, OO⟩
end Go.X

set_option linter.unusedSimpArgs false
set_option linter.unusedVariables false
set_option maxRecDepth 20000
namespace Go.X
open Go.Proofs
theorem cloneI (v : Value) (h : PHeap) (xs : List Int) [s : Arr v encI 1 h xs] (hl : xs.length ≤ 68719476736) :
    Spec Try.prog 23 #[v] [] [h] (fun v' hs => ∃ h', hs = [h'] ∧ OArr v' encI 1 3 h' xs) := by
  refine Spec.intro (fn := Try.f23) (N := 8) Try.func23 rfl Try.ntmps23 rfl fun B => ?_
  refine XK.seq ?_
  refine XK.region rfl ?_
  refine XO.q (Q.assign rfl) ?_
  refine XO.done ?_
  refine XK.seq ?_
  refine XK.seq ?_
  refine XK.region rfl ?_
  refine XO.q (Q.move rfl) ?_
  refine XO.eqNil rfl fun z4 hz4 => ?_
  refine XO.done ?_
  refine XK.if rfl (fun c0 => ?_) (fun c0 => ?_)
  · have _t0 := True.intro
    refine XK.seq ?_
    refine XK.region rfl ?_
    refine XO.q (Q.assign rfl) ?_
    refine XO.done ?_
    refine XK.rt [emp] Try.func23 Try.results23 (.t rfl .n) ?_
    exact ⟨emp, rfl, by rw [(hz4 c0).1]; exact OArr.nil (fun _ => rfl)⟩
  · have _t0 := True.intro
    refine XK.skip ?_
    refine XK.seq ?_
    refine XK.region rfl ?_
    refine XO.lit [] [] [] encI (by rfl) (by rfl) rfl (by rfl) (by exact .n _) (fun _ => rfl) (by rfl) rfl (by infer_instance) rfl fun v5 h5 O5 => ?_
    refine XO.q (Q.move rfl) ?_
    refine XO.append rfl rfl rfl rfl (by first | omega | (simp; omega)) fun v7 h7 O7 => ?_
    refine XO.q (Q.assign rfl) ?_
    refine XO.done ?_
    refine XK.rt [h7] Try.func23 Try.results23 (.t rfl .n) ?_
    exact ⟨h7, rfl, O7⟩
theorem equalI (v1 v2 : Value) (h1 h2 : PHeap) (xs ys : List Int) [s1 : Arr v1 encI 1 h1 xs] [s2 : Arr v2 encI 1 h2 ys] :
    Spec Try.prog 39 #[v1, v2] [] [h1, h2] (fun v hs => v = .bool (decide (xs = ys)) ∧ hs = []) := by
  refine Spec.intro (fn := Try.f39) (N := 26) Try.func39 rfl Try.ntmps39 rfl fun B => ?_
  refine XK.seq ?_
  refine XK.region rfl ?_
  refine XO.q (Q.assign rfl) ?_
  refine XO.done ?_
  refine XK.seq ?_
  refine XK.seq ?_
  refine XK.region rfl ?_
  refine XO.q (Q.move rfl) ?_
  refine XO.len rfl fun l7 => ?_
  refine XO.q (Q.move rfl) ?_
  refine XO.len rfl fun l9 => ?_
  refine XO.q (Q.neq rfl rfl) ?_
  refine XO.done ?_
  refine XK.if rfl (fun c0 => ?_) (fun c0 => ?_)
  · have _t0 := True.intro
    refine XK.seq ?_
    refine XK.region rfl ?_
    refine XO.q (Q.assign rfl) ?_
    refine XO.done ?_
    refine XK.rt [] Try.func39 Try.results39 (.t rfl .n) ?_
    exact ⟨by rw [decide_eq_false (fun h => c0 (by rw [h]))], rfl⟩
  · have _t0 := True.intro
    refine XK.skip ?_
    refine XK.seq ?_
    refine XK.seq ?_
    refine XK.region rfl ?_
    refine XO.q (Q.move rfl) ?_
    refine XO.len rfl fun l12 => ?_
    refine XO.q (Q.move rfl) ?_
    refine XO.done ?_
    refine XK.block ?_
    refine XK.while (X := Nat) [4, 5, 13, 14, 15, 16, 17, 18, 19, 20, 21, 22, 23, 24, 25] (fun i => [(13, some (.int .i64 (i : Nat)))]) (fun i => []) (fun i => i ≤ xs.length ∧ xs.take i = ys.take i) (fun i => xs.length - i) (0) [] rfl ⟨by omega, rfl⟩ (.c rfl (.base 0 rfl rfl)) ?_
    rintro i ⟨hi, ht⟩ ih0
    dsimp only [List.cons_append, List.nil_append] at ih0 ⊢
    refine XK.seq ?_
    refine XK.region rfl ?_
    refine XO.q (Q.lss rfl rfl) ?_
    refine XO.done ?_
    refine XK.seq ?_
    refine XK.if rfl (fun c1 => ?_) (fun c1 => ?_)
    · have _t1 := True.intro
      refine XK.skip ?_
      refine XK.seq ?_
      refine XK.block ?_
      refine XK.seq ?_
      refine XK.region rfl ?_
      refine XO.q (Q.move rfl) ?_
      refine XO.q (Q.assign rfl) ?_
      refine XO.done ?_
      refine XK.seq ?_
      refine XK.drawn [0, 1, 2, 3, 4, 5, 6, 7, 8] [] [] (.q 0 (.q 1 (.q 2 (.q 3 (.q 4 (.q 5 (.q 6 (.q 7 (.q 8 .done))))))))) Try.mixed rfl (by kernel_rfl) ?_
      refine XT.q rfl rfl (Q.move rfl) ?_
      refine XT.q rfl rfl (Q.move rfl) ?_
      refine XT.ix rfl rfl rfl rfl (by omega) (by omega) fun i18 => ?_
      refine XT.q rfl rfl (Q.ldE rfl (by first | assumption | omega) rfl) ?_
      refine XT.q rfl rfl (Q.move rfl) ?_
      refine XT.q rfl rfl (Q.move rfl) ?_
      refine XT.ix rfl rfl rfl rfl (by omega) (by omega) fun i22 => ?_
      refine XT.q rfl rfl (Q.ldE rfl (by first | assumption | omega) rfl) ?_
      refine XT.q rfl rfl (Q.neq rfl rfl) ?_
      refine XT.done ?_
      refine XK.if rfl (fun c2 => ?_) (fun c2 => ?_)
      · have _t2 := True.intro
        refine XK.seq ?_
        refine XK.region rfl ?_
        refine XO.q (Q.assign rfl) ?_
        refine XO.done ?_
        refine XK.rt [] Try.func39 Try.results39 (.t rfl .n) ?_
        exact ⟨by rw [decide_eq_false (fun h => c2 (by rw [h]))], rfl⟩
      · have _t2 := True.intro
        refine XK.skip ?_
        refine XK.inBlock ?_
        refine XK.region rfl ?_
        refine XO.q (Q.add rfl rfl ⟨by omega, by omega⟩) ?_
        refine XO.q (Q.move rfl) ?_
        refine XO.done ?_
        exact ih0 (i + 1) _ _ ⟨by omega, take_step ht (by omega) (by omega) (Decidable.of_not_not c2)⟩ (by first | omega | (dsimp only; omega)) (.c rfl (.base 30 rfl rfl)) inferInstance
    · have _t1 := True.intro
      refine XK.exit rfl ?_
      refine XK.seq ?_
      refine XK.region rfl ?_
      refine XO.q (Q.assign rfl) ?_
      refine XO.done ?_
      refine XK.rt [] Try.func39 Try.results39 (.t rfl .n) ?_
      exact ⟨by rw [decide_eq_true (take_all ht c1 (by omega))], rfl⟩
theorem indexFuncI (v : Value) (h : PHeap) (xs : List Int) [s : Arr v encI 1 h xs] (gid : FuncId) (cap : List Value) (Hr : List PHeap) (p : Int → Bool)
    (hc : ∀ args w, (callFunc gid args).run Try.prog w = .ok (.enter gid args) w) (hS : ∀ x ∈ xs, Spec Try.prog gid (.int .i64 x :: cap).toArray [] Hr (fun v hs => v = .bool (p x) ∧ hs = [])) :
    Spec Try.prog 105 #[v, .func (.func gid) #[] cap.toArray] [] (h :: Hr) (fun v hs => v = .int .i64 (findFirst p xs) ∧ hs = []) := by
  refine Spec.intro (fn := Try.f105) (N := 19) Try.func105 rfl Try.ntmps105 rfl fun B => ?_
  refine XK.seq ?_
  refine XK.region rfl ?_
  refine XO.q (Q.assign rfl) ?_
  refine XO.done ?_
  refine XK.seq ?_
  refine XK.seq ?_
  refine XK.region rfl ?_
  refine XO.q (Q.move rfl) ?_
  refine XO.len rfl fun l7 => ?_
  refine XO.q (Q.move rfl) ?_
  refine XO.done ?_
  refine XK.block ?_
  refine XK.while (X := Nat) [4, 5, 8, 9, 10, 11, 12, 13, 14, 15, 16, 17, 18] (fun i => [(8, some (.int .i64 (i : Nat)))]) (fun i => []) (fun i => i ≤ xs.length ∧ (xs.take i).any p = false) (fun i => xs.length - i) (0) [] rfl ⟨by omega, rfl⟩ (.c rfl (.base 0 rfl rfl)) ?_
  rintro i ⟨hi, ht⟩ ih0
  dsimp only [List.cons_append, List.nil_append] at ih0 ⊢
  refine XK.seq ?_
  refine XK.region rfl ?_
  refine XO.q (Q.lss rfl rfl) ?_
  refine XO.done ?_
  refine XK.seq ?_
  refine XK.if rfl (fun c0 => ?_) (fun c0 => ?_)
  · have _t0 := True.intro
    refine XK.skip ?_
    refine XK.seq ?_
    refine XK.block ?_
    refine XK.seq ?_
    refine XK.region rfl ?_
    refine XO.q (Q.move rfl) ?_
    refine XO.q (Q.assign rfl) ?_
    refine XO.done ?_
    refine XK.seq ?_
    refine XK.region rfl ?_
    refine XO.q (Q.move rfl) ?_
    refine XO.q (Q.move rfl) ?_
    refine XO.q (Q.move rfl) ?_
    refine XO.ix rfl rfl (by omega) (by omega) fun i14 => ?_
    refine XO.q (Q.ldE rfl (by first | assumption | omega) rfl) ?_
    refine XO.call hc rfl rfl rfl (hS _ (getD_mem (by omega))) fun v16 s16 R16 => ?_
    obtain ⟨rfl, rfl⟩ := R16
    dsimp only [List.cons_append, List.nil_append]
    refine XO.done ?_
    refine XK.if rfl (fun c1 => ?_) (fun c1 => ?_)
    · have _t1 := True.intro
      refine XK.seq ?_
      refine XK.region rfl ?_
      refine XO.q (Q.move rfl) ?_
      refine XO.q (Q.assign rfl) ?_
      refine XO.done ?_
      refine XK.rt [] Try.func105 Try.results105 (.t rfl .n) ?_
      exact ⟨by rw [findFirst_here ht (by omega) c1], rfl⟩
    · have _t1 := True.intro
      refine XK.skip ?_
      refine XK.inBlock ?_
      refine XK.region rfl ?_
      refine XO.q (Q.add rfl rfl ⟨by omega, by omega⟩) ?_
      refine XO.q (Q.move rfl) ?_
      refine XO.done ?_
      exact ih0 (i + 1) _ _ ⟨by omega, any_step ht (by omega) (Bool.eq_false_iff.2 c1)⟩ (by first | omega | (dsimp only; omega)) (.c rfl (.base 25 rfl rfl)) inferInstance
  · have _t0 := True.intro
    refine XK.exit rfl ?_
    refine XK.seq ?_
    refine XK.region rfl ?_
    refine XO.q (Q.assign rfl) ?_
    refine XO.done ?_
    refine XK.rt [] Try.func105 Try.results105 (.t rfl .n) ?_
    exact ⟨by rw [findFirst_none ht c0], rfl⟩
theorem containsFuncI (v : Value) (h : PHeap) (xs : List Int) [s : Arr v encI 1 h xs] (gid : FuncId) (cap : List Value) (Hr : List PHeap) (p : Int → Bool)
    (hc : ∀ args w, (callFunc gid args).run Try.prog w = .ok (.enter gid args) w) (hS : ∀ x ∈ xs, Spec Try.prog gid (.int .i64 x :: cap).toArray [] Hr (fun v hs => v = .bool (p x) ∧ hs = [])) :
    Spec Try.prog 76 #[v, .func (.func gid) #[] cap.toArray] [] (h :: Hr) (fun v hs => v = .bool (xs.any p) ∧ hs = []) := by
  refine Spec.intro (fn := Try.f76) (N := 9) Try.func76 rfl Try.ntmps76 rfl fun B => ?_
  refine XK.seq ?_
  refine XK.region rfl ?_
  refine XO.q (Q.assign rfl) ?_
  refine XO.done ?_
  refine XK.seq ?_
  refine XK.region rfl ?_
  refine XO.q (Q.move rfl) ?_
  refine XO.q (Q.move rfl) ?_
  refine XO.call Try.call105 rfl rfl rfl (indexFuncI v h xs gid cap Hr p hc hS) fun v7 s7 R7 => ?_
  obtain ⟨rfl, rfl⟩ := R7
  dsimp only [List.cons_append, List.nil_append]
  refine XO.q (Q.geq rfl rfl) ?_
  refine XO.q (Q.assign rfl) ?_
  refine XO.done ?_
  refine XK.rt [] Try.func76 Try.results76 (.t rfl .n) ?_
  exact ⟨by rw [← findFirst_any], rfl⟩
theorem warm1 (x : Int) : Spec Try.prog 77 #[.int .i64 x] [] [] (fun v hs => v = .bool (!inP x 1000000) ∧ hs = []) := by
  refine Spec.intro (fn := Try.f77) (N := 6) Try.func77 rfl Try.ntmps77 rfl fun B => ?_
  refine XK.seq ?_
  refine XK.region rfl ?_
  refine XO.q (Q.assign rfl) ?_
  refine XO.done ?_
  refine XK.seq ?_
  refine XK.region rfl ?_
  refine XO.q (Q.move rfl) ?_
  refine XO.call Try.call37 rfl rfl rfl (in_spec _ _) fun v4 s4 R4 => ?_
  obtain ⟨rfl, rfl⟩ := R4
  dsimp only [List.cons_append, List.nil_append]
  refine XO.q (Q.not rfl) ?_
  refine XO.q (Q.assign rfl) ?_
  refine XO.done ?_
  refine XK.rt [] Try.func77 Try.results77 (.t rfl .n) ?_
  exact ⟨rfl, rfl⟩
theorem cased1 (x : Int) : Spec Try.prog 78 #[.int .i64 x] [] [] (fun v hs => v = .bool (!inP x 10000000) ∧ hs = []) := by
  refine Spec.intro (fn := Try.f78) (N := 6) Try.func78 rfl Try.ntmps78 rfl fun B => ?_
  refine XK.seq ?_
  refine XK.region rfl ?_
  refine XO.q (Q.assign rfl) ?_
  refine XO.done ?_
  refine XK.seq ?_
  refine XK.region rfl ?_
  refine XO.q (Q.move rfl) ?_
  refine XO.call Try.call37 rfl rfl rfl (in_spec _ _) fun v4 s4 R4 => ?_
  obtain ⟨rfl, rfl⟩ := R4
  dsimp only [List.cons_append, List.nil_append]
  refine XO.q (Q.not rfl) ?_
  refine XO.q (Q.assign rfl) ?_
  refine XO.done ?_
  refine XK.rt [] Try.func78 Try.results78 (.t rfl .n) ?_
  exact ⟨rfl, rfl⟩
theorem warm_spec (h : Hall) (vr vw vb vc : Value) (hr : PHeap) [ir : Arr vr encRoom 2 hr h.rooms] [iw : One vw] [ib : One vb] [ic : One vc] (vt : Value) (ht : PHeap) (t : List Int) [it : Arr vt encI 1 ht t] : Spec Try.prog 41 #[.agg #[vr, vw, vb, vc], vt] [] [hr, ht]
    (fun v hs => v = .int .i64 (warmP h t) ∧ hs = []) := by
  refine Spec.intro (fn := Try.f41) (N := 13) Try.func41 rfl Try.ntmps41 rfl fun B => ?_
  refine XK.seq ?_
  refine XK.region rfl ?_
  refine XO.box rfl fun b2 => ?_
  refine XO.q (Q.assign rfl) ?_
  refine XO.done ?_
  refine XK.seq ?_
  refine XK.seq ?_
  refine XK.region rfl ?_
  refine XO.q (Q.move rfl) ?_
  refine XO.len rfl fun l6 => ?_
  refine XO.q (Q.fieldAddr rfl) ?_
  refine XO.q (Q.ld rfl rfl) ?_
  refine XO.len rfl fun l9 => ?_
  refine XO.q (Q.neq rfl rfl) ?_
  refine XO.done ?_
  refine XK.if rfl (fun c0 => ?_) (fun c0 => ?_)
  · have _t0 := True.intro
    refine XK.seq ?_
    refine XK.region rfl ?_
    refine XO.q (Q.assign rfl) ?_
    refine XO.done ?_
    refine XK.rt [] Try.func41 Try.results41 (.t rfl .n) ?_
    exact ⟨by rw [warmP, if_pos c0], rfl⟩
  · have _t0 := True.intro
    refine XK.skip ?_
    refine XK.seq ?_
    refine XK.seq ?_
    refine XK.region rfl ?_
    refine XO.q (Q.move rfl) ?_
    refine XO.call Try.call76 rfl rfl rfl (containsFuncI vt ht t 77 [] [] _ Try.call77 (fun x hx => warm1 x)) fun v12 s12 R12 => ?_
    obtain ⟨rfl, rfl⟩ := R12
    dsimp only [List.cons_append, List.nil_append]
    refine XO.done ?_
    refine XK.if rfl (fun c1 => ?_) (fun c1 => ?_)
    · have _t1 := True.intro
      refine XK.seq ?_
      refine XK.region rfl ?_
      refine XO.q (Q.assign rfl) ?_
      refine XO.done ?_
      refine XK.rt [] Try.func41 Try.results41 (.t rfl .n) ?_
      exact ⟨by rw [warmP, if_neg c0, if_pos c1], rfl⟩
    · have _t1 := True.intro
      refine XK.skip ?_
      refine XK.seq ?_
      refine XK.region rfl ?_
      refine XO.q (Q.assign rfl) ?_
      refine XO.done ?_
      refine XK.rt [] Try.func41 Try.results41 (.t rfl .n) ?_
      exact ⟨by rw [warmP, if_neg c0, if_neg c1], rfl⟩
theorem cased_spec (h : Hall) (vr vw vb vc : Value) (hr : PHeap) [ir : Arr vr encRoom 2 hr h.rooms] [iw : One vw] [ib : One vb] [ic : One vc] (vl : Value) (hl : PHeap) (c : HCase) [il : Arr vl encI 1 hl c.load] : Spec Try.prog 42 #[.agg #[vr, vw, vb, vc], .agg #[vl, .int .i64 c.out, .int .i64 c.pump]] [] [hr, hl]
    (fun v hs => v = .int .i64 (casedP h c) ∧ hs = []) := by
  refine Spec.intro (fn := Try.f42) (N := 27) Try.func42 rfl Try.ntmps42 rfl fun B => ?_
  refine XK.seq ?_
  refine XK.region rfl ?_
  refine XO.box rfl fun b2 => ?_
  refine XO.box rfl fun b3 => ?_
  refine XO.q (Q.assign rfl) ?_
  refine XO.done ?_
  refine XK.seq ?_
  refine XK.seq ?_
  refine XK.region rfl ?_
  refine XO.q (Q.fieldAddr rfl) ?_
  refine XO.q (Q.ld rfl rfl) ?_
  refine XO.len rfl fun l7 => ?_
  refine XO.q (Q.fieldAddr rfl) ?_
  refine XO.q (Q.ld rfl rfl) ?_
  refine XO.len rfl fun l10 => ?_
  refine XO.q (Q.neq rfl rfl) ?_
  refine XO.done ?_
  refine XK.if rfl (fun c0 => ?_) (fun c0 => ?_)
  · have _t0 := True.intro
    refine XK.seq ?_
    refine XK.region rfl ?_
    refine XO.q (Q.assign rfl) ?_
    refine XO.done ?_
    refine XK.rt [] Try.func42 Try.results42 (.t rfl .n) ?_
    exact ⟨by rw [casedP, if_pos c0], rfl⟩
  · have _t0 := True.intro
    refine XK.skip ?_
    refine XK.seq ?_
    refine XK.seq ?_
    refine XK.region rfl ?_
    refine XO.q (Q.fieldAddr rfl) ?_
    refine XO.q (Q.ld rfl rfl) ?_
    refine XO.call Try.call76 rfl rfl rfl (containsFuncI vl hl c.load 78 [] [] _ Try.call78 (fun x hx => cased1 x)) fun v14 s14 R14 => ?_
    obtain ⟨rfl, rfl⟩ := R14
    dsimp only [List.cons_append, List.nil_append]
    refine XO.q (Q.move rfl) ?_
    refine XO.q (Quiet.guardF rfl rfl fun g16 p16 => Q.fieldAddr rfl) ?_
    refine XO.q (Quiet.guardF rfl rfl fun g17 p17 => Q.ld (lzv g17 rfl) rfl) ?_
    refine XO.gcallF rfl rfl Try.call37 rfl (fun g18 => .c (lzv g18 rfl) (.c rfl .n)) rfl (fun g18 p18 => in_spec _ _) ?_
    refine XO.q (Quiet.guardF rfl rfl fun g19 p19 => Q.not (lzv g19 rfl)) ?_
    refine XO.q (Q.or rfl (fun hp => lzv hp rfl)) ?_
    refine XO.q (Q.move rfl) ?_
    refine XO.q (Quiet.guardF rfl rfl fun g22 p22 => Q.fieldAddr rfl) ?_
    refine XO.q (Quiet.guardF rfl rfl fun g23 p23 => Q.ld (lzv g23 rfl) rfl) ?_
    refine XO.gcallF rfl rfl Try.call37 rfl (fun g24 => .c (lzv g24 rfl) (.c rfl .n)) rfl (fun g24 p24 => in_spec _ _) ?_
    refine XO.q (Quiet.guardF rfl rfl fun g25 p25 => Q.not (lzv g25 rfl)) ?_
    refine XO.q (Q.or rfl (fun hp => lzv hp rfl)) ?_
    refine XO.done ?_
    refine XK.if rfl (fun c1 => ?_) (fun c1 => ?_)
    · have _t1 := True.intro
      refine XK.seq ?_
      refine XK.region rfl ?_
      refine XO.q (Q.assign rfl) ?_
      refine XO.done ?_
      refine XK.rt [] Try.func42 Try.results42 (.t rfl .n) ?_
      exact ⟨by rw [casedP, if_neg c0, if_pos c1], rfl⟩
    · have _t1 := True.intro
      refine XK.skip ?_
      refine XK.seq ?_
      refine XK.region rfl ?_
      refine XO.q (Q.assign rfl) ?_
      refine XO.done ?_
      refine XK.rt [] Try.func42 Try.results42 (.t rfl .n) ?_
      exact ⟨by rw [casedP, if_neg c0, if_neg c1], rfl⟩
theorem indexE (v : Value) (hh : PHeap) (xs : List Int) [s : Arr v encI 1 hh xs] (x : Int) : Spec Try.prog 104 #[v, .int .i64 x] [] [hh] (fun v hs => v = .int .i64 (findFirst (fun y => decide (x = y)) xs) ∧ hs = []) := by
  refine Spec.intro (fn := Try.f104) (N := 19) Try.func104 rfl Try.ntmps104 rfl fun B => ?_
  refine XK.seq ?_
  refine XK.region rfl ?_
  refine XO.q (Q.assign rfl) ?_
  refine XO.done ?_
  refine XK.seq ?_
  refine XK.seq ?_
  refine XK.region rfl ?_
  refine XO.q (Q.move rfl) ?_
  refine XO.len rfl fun l7 => ?_
  refine XO.q (Q.move rfl) ?_
  refine XO.done ?_
  refine XK.block ?_
  refine XK.while (X := Nat) [4, 5, 8, 9, 10, 11, 12, 13, 14, 15, 16, 17, 18] (fun i => [(8, some (.int .i64 (i : Nat)))]) (fun i => []) (fun i => i ≤ xs.length ∧ (xs.take i).any (fun y => decide (x = y)) = false) (fun i => xs.length - i) (0) [] rfl ⟨by omega, rfl⟩ (.c rfl (.base 0 rfl rfl)) ?_
  rintro i ⟨hi, hany⟩ ih0
  dsimp only [List.cons_append, List.nil_append] at ih0 ⊢
  refine XK.seq ?_
  refine XK.region rfl ?_
  refine XO.q (Q.lss rfl rfl) ?_
  refine XO.done ?_
  refine XK.seq ?_
  refine XK.if rfl (fun c0 => ?_) (fun c0 => ?_)
  · have _t0 := True.intro
    refine XK.skip ?_
    refine XK.seq ?_
    refine XK.block ?_
    refine XK.seq ?_
    refine XK.region rfl ?_
    refine XO.q (Q.move rfl) ?_
    refine XO.q (Q.assign rfl) ?_
    refine XO.done ?_
    refine XK.seq ?_
    refine XK.region rfl ?_
    refine XO.q (Q.move rfl) ?_
    refine XO.q (Q.move rfl) ?_
    refine XO.q (Q.move rfl) ?_
    refine XO.ix rfl rfl (by omega) (by omega) fun i14 => ?_
    refine XO.q (Q.ldE rfl (by first | assumption | omega) rfl) ?_
    refine XO.q (Q.eql rfl rfl) ?_
    refine XO.done ?_
    refine XK.if rfl (fun c1 => ?_) (fun c1 => ?_)
    · have _t1 := True.intro
      refine XK.seq ?_
      refine XK.region rfl ?_
      refine XO.q (Q.move rfl) ?_
      refine XO.q (Q.assign rfl) ?_
      refine XO.done ?_
      refine XK.rt [] Try.func104 Try.results104 (.t rfl .n) ?_
      exact ⟨by rw [findFirst_here hany (by omega) (by rw [decide_eq_true_eq]; exact c1)], rfl⟩
    · have _t1 := True.intro
      refine XK.skip ?_
      refine XK.inBlock ?_
      refine XK.region rfl ?_
      refine XO.q (Q.add rfl rfl ⟨by omega, by omega⟩) ?_
      refine XO.q (Q.move rfl) ?_
      refine XO.done ?_
      exact ih0 (i + 1) _ _ ⟨by omega, any_step hany (by omega) (by rw [decide_eq_false_iff_not]; exact c1)⟩ (by first | omega | (dsimp only; omega)) (.c rfl (.base 25 rfl rfl)) inferInstance
  · have _t0 := True.intro
    refine XK.exit rfl ?_
    refine XK.seq ?_
    refine XK.region rfl ?_
    refine XO.q (Q.assign rfl) ?_
    refine XO.done ?_
    refine XK.rt [] Try.func104 Try.results104 (.t rfl .n) ?_
    exact ⟨by rw [findFirst_none hany c0], rfl⟩
theorem containsE (v : Value) (hh : PHeap) (xs : List Int) [s : Arr v encI 1 hh xs] (x : Int) : Spec Try.prog 75 #[v, .int .i64 x] [] [hh] (fun v hs => v = .bool (xs.any (fun y => decide (x = y))) ∧ hs = []) := by
  refine Spec.intro (fn := Try.f75) (N := 9) Try.func75 rfl Try.ntmps75 rfl fun B => ?_
  refine XK.seq ?_
  refine XK.region rfl ?_
  refine XO.q (Q.assign rfl) ?_
  refine XO.done ?_
  refine XK.seq ?_
  refine XK.region rfl ?_
  refine XO.q (Q.move rfl) ?_
  refine XO.q (Q.move rfl) ?_
  refine XO.call Try.call104 rfl rfl rfl (indexE v hh xs x) fun v7 s7 R7 => ?_
  obtain ⟨rfl, rfl⟩ := R7
  dsimp only [List.cons_append, List.nil_append]
  refine XO.q (Q.geq rfl rfl) ?_
  refine XO.q (Q.assign rfl) ?_
  refine XO.done ?_
  refine XK.rt [] Try.func75 Try.results75 (.t rfl .n) ?_
  exact ⟨by rw [← findFirst_any], rfl⟩
theorem any_mem {x : Int} {xs : List Int} : xs.any (fun y => decide (x = y)) = true ↔ x ∈ xs := by
  rw [List.any_eq_true]
  exact ⟨fun ⟨y, hy, h⟩ => by rw [decide_eq_true_eq] at h; exact h ▸ hy, fun h => ⟨x, h, by simp⟩⟩
theorem both_spec (v : Value) (hh : PHeap) (xs : List Int) [s : Arr v encI 1 hh xs] : Spec Try.prog 40 #[v] [] [hh] (fun v hs => v = .int .i64 (bothP xs) ∧ hs = []) := by
  refine Spec.intro (fn := Try.f40) (N := 16) Try.func40 rfl Try.ntmps40 rfl fun B => ?_
  refine XK.seq ?_
  refine XK.region rfl ?_
  refine XO.q (Q.assign rfl) ?_
  refine XO.done ?_
  refine XK.seq ?_
  refine XK.seq ?_
  refine XK.region rfl ?_
  refine XO.lit [_, _] [_, _] [1, 6] encI (by rfl) (by rfl) rfl (by rfl) (by exact .c 0 1 rfl rfl rfl (.c 1 1 rfl rfl rfl (.n _))) (fun _ => rfl) (by rfl) rfl (by infer_instance) rfl fun v5 h5 O5 => ?_
  refine XO.len rfl fun l6 => ?_
  rw [show (((([1, 6] : List Int).length : Nat) : Int)) = 2 from rfl]
  refine XO.q (Q.move rfl) ?_
  refine XO.done ?_
  refine XK.block ?_
  refine XK.while (X := Nat) [2, 4, 7, 8, 9, 10, 11, 12, 13, 14, 15] (fun i => [(7, some (.int .i64 (i : Nat)))]) (fun i => []) (fun i => i ≤ 2 ∧ (0 < i → ¬ (1 : Int) ∈ xs) ∧ (1 < i → ¬ (6 : Int) ∈ xs)) (fun i => 2 - i) (0) [] rfl ⟨by omega, by omega, by omega⟩ (.c rfl (.base 0 rfl rfl)) ?_
  rintro i ⟨hi, h0, h1⟩ ih0
  dsimp only [List.cons_append, List.nil_append] at ih0 ⊢
  refine XK.seq ?_
  refine XK.region rfl ?_
  refine XO.q (Q.lss rfl rfl) ?_
  refine XO.done ?_
  refine XK.seq ?_
  refine XK.if rfl (fun c0 => ?_) (fun c0 => ?_)
  · have _t0 := True.intro
    refine XK.skip ?_
    refine XK.seq ?_
    refine XK.block ?_
    refine XK.seq ?_
    refine XK.region rfl ?_
    refine XO.ix rfl rfl (by omega) (by show (i : Int) < 2; omega) fun i9 => ?_
    refine XO.q (Q.ldE rfl (by first | assumption | omega) rfl) ?_
    refine XO.q (Q.assign rfl) ?_
    refine XO.done ?_
    refine XK.seq ?_
    refine XK.region rfl ?_
    refine XO.q (Q.move rfl) ?_
    refine XO.q (Q.move rfl) ?_
    refine XO.call Try.call75 rfl rfl rfl (containsE v hh xs _) fun v13 s13 R13 => ?_
    obtain ⟨rfl, rfl⟩ := R13
    dsimp only [List.cons_append, List.nil_append]
    refine XO.done ?_
    refine XK.if rfl (fun c1 => ?_) (fun c1 => ?_)
    · have _t1 := True.intro
      refine XK.seq ?_
      refine XK.region rfl ?_
      refine XO.q (Q.move rfl) ?_
      refine XO.q (Q.assign rfl) ?_
      refine XO.done ?_
      refine XK.rt [] Try.func40 Try.results40 (.t rfl .n) ?_
      rw [any_mem] at c1
      match i, (by omega : i < 2) with
      | 0, _ => exact ⟨by rw [bothP, if_pos (show (1 : Int) ∈ xs from c1)]; rfl, rfl⟩
      | 1, _ => exact ⟨by rw [bothP, if_neg (h0 (by omega)), if_pos (show (6 : Int) ∈ xs from c1)]; rfl, rfl⟩
    · have _t1 := True.intro
      refine XK.skip ?_
      refine XK.inBlock ?_
      refine XK.region rfl ?_
      refine XO.q (Q.add rfl rfl ⟨by omega, by omega⟩) ?_
      refine XO.q (Q.move rfl) ?_
      refine XO.done ?_
      rw [any_mem] at c1
      exact ih0 (i + 1) _ _ (by match i, (by omega : i < 2) with
          | 0, _ => exact ⟨by omega, fun _ => c1, by omega⟩
          | 1, _ => exact ⟨by omega, fun _ => h0 (by omega), fun _ => c1⟩) (by first | omega | (dsimp only; omega)) (.c rfl (.base 21 rfl rfl)) inferInstance
  · have _t0 := True.intro
    refine XK.exit rfl ?_
    refine XK.seq ?_
    refine XK.region rfl ?_
    refine XO.q (Q.assign rfl) ?_
    refine XO.done ?_
    refine XK.rt [] Try.func40 Try.results40 (.t rfl .n) ?_
    have hi2 : i = 2 := by omega
    exact ⟨by rw [bothP, if_neg (h0 (by omega)), if_neg (h1 (by omega))], rfl⟩
theorem Next_spec (h : Hall) (vr vw vb vc : Value) (hr hw hb hc : PHeap) [ir : Arr vr encRoom 2 hr h.rooms] [iw : Arr vw encWall 3 hw h.walls] [ib : Arr vb encBranch 3 hb h.branches] [ic : Arr vc encCooler 5 hc h.coolers] (t : List Int) (vt : Value) (ht : PHeap) [it : Arr vt encI 1 ht t] (c : HCase) (vl : Value) (hl : PHeap) [il : Arr vl encI 1 hl c.load] : Spec Try.prog 16 #[.agg #[vr, vw, vb, vc], vt, .agg #[vl, .int .i64 c.out, .int .i64 c.pump]] [] [hr, hw, hb, hc, ht, hl]
    (fun v hs => ∃ v1 k1, v = .tuple #[v1, .int .i64 (nextG h t c).2] ∧ hs = [k1] ∧ OArr v1 encI 1 3 k1 (nextG h t c).1) := by
  refine Spec.intro (fn := Try.f16) (N := 30) Try.func16 rfl Try.ntmps16 rfl fun B => ?_
  refine XK.seq ?_
  refine XK.region rfl ?_
  refine XO.box rfl fun b3 => ?_
  refine XO.box rfl fun b5 => ?_
  refine XO.q (Q.assign rfl) ?_
  refine XO.q (Q.assign rfl) ?_
  refine XO.done ?_
  refine XK.seq ?_
  refine XK.seq ?_
  refine XK.region rfl ?_
  refine XO.q (Q.ldA [_, _, _, _] rfl rfl rfl) ?_
  refine XO.call Try.call36 rfl rfl rfl (Check_spec h vr vw vb vc hr hw hb hc) fun v11 s11 R11 => ?_
  obtain ⟨rfl, rfl⟩ := R11
  dsimp only [List.cons_append, List.nil_append]
  refine XO.q (Q.assign rfl) ?_
  refine XO.done ?_
  refine XK.seq ?_
  refine XK.region rfl ?_
  refine XO.q (Q.move rfl) ?_
  refine XO.q (Q.neq rfl rfl) ?_
  refine XO.done ?_
  refine XK.if rfl (fun c0 => ?_) (fun c0 => ?_)
  · have _t0 := True.intro
    refine XK.seq ?_
    refine XK.region rfl ?_
    refine XO.q (Q.move rfl) ?_
    refine XO.q (Q.assign rfl) ?_
    refine XO.q (Q.assign rfl) ?_
    refine XO.done ?_
    refine XK.rt [emp] Try.func16 Try.results16 (.t rfl (.t rfl .n)) ?_
    have hw0 : nextG h t c = ([], hcheck h) := by rw [nextG, if_pos c0]
    rw [hw0]
    exact ⟨.slice none 0 0, emp, rfl, rfl, OArr.nil (fun _ => rfl)⟩
  · have _t0 := True.intro
    refine XK.skip ?_
    refine XK.seq ?_
    refine XK.seq ?_
    refine XK.drawn [0, 1, 3, 4, 8] [b3, b5] [] (.q 0 (.q 1 (.q 3 (.q 4 (.br 2 true (.br 5 true (.br 6 true (.br 7 true (.q 8 .done) .stop) .stop) .stop) .stop))))) Try.mixed rfl (by kernel_rfl) ?_
    refine XT.q rfl rfl (Q.ldA [_, _, _, _] rfl rfl rfl) ?_
    refine XT.q rfl rfl (Q.move rfl) ?_
    refine XT.q rfl rfl (Q.ldA [_, _, _, _] rfl rfl rfl) ?_
    refine XT.q rfl rfl (Q.ldA [_, _, _] rfl rfl rfl) ?_
    refine XT.call rfl rfl Try.call41 rfl rfl rfl (warm_spec h vr vw vb vc hr vt ht t) (fun v17 s17 R17 => ?_) XT.stop
    obtain ⟨rfl, rfl⟩ := R17
    dsimp only [List.cons_append, List.nil_append]
    refine ⟨inferInstance, ?_⟩
    refine XT.call rfl rfl Try.call42 rfl rfl rfl (cased_spec h vr vw vb vc hr vl hl c) (fun v20 s20 R20 => ?_) XT.stop
    obtain ⟨rfl, rfl⟩ := R20
    dsimp only [List.cons_append, List.nil_append]
    refine ⟨inferInstance, ?_⟩
    refine XT.lit [_, _] [_, _] [warmP h t, casedP h c] encI rfl rfl (by rfl) (by rfl) rfl (by rfl) (by exact .c 0 1 rfl rfl rfl (.c 1 1 rfl rfl rfl (.n _))) (fun _ => rfl) (by rfl) rfl (by infer_instance) rfl (fun v21 h21 O21 => ⟨inferInstance, ?_⟩) XT.stop
    refine XT.call rfl rfl Try.call40 rfl rfl rfl (both_spec v21 h21 [warmP h t, casedP h c]) (fun v22 s22 R22 => ?_) XT.stop
    obtain ⟨rfl, rfl⟩ := R22
    dsimp only [List.cons_append, List.nil_append]
    refine ⟨inferInstance, ?_⟩
    refine XT.q rfl rfl (Q.assign rfl) ?_
    refine XT.done ?_
    refine XK.seq ?_
    refine XK.region rfl ?_
    refine XO.q (Q.move rfl) ?_
    refine XO.q (Q.neq rfl rfl) ?_
    refine XO.done ?_
    refine XK.if rfl (fun c1 => ?_) (fun c1 => ?_)
    · have _t1 := True.intro
      refine XK.seq ?_
      refine XK.region rfl ?_
      refine XO.q (Q.move rfl) ?_
      refine XO.q (Q.assign rfl) ?_
      refine XO.q (Q.assign rfl) ?_
      refine XO.done ?_
      refine XK.rt [emp] Try.func16 Try.results16 (.t rfl (.t rfl .n)) ?_
      have hw0 : nextG h t c = ([], bothP [warmP h t, casedP h c]) := by rw [nextG, if_neg c0, if_pos c1]
      rw [hw0]
      exact ⟨.slice none 0 0, emp, rfl, rfl, OArr.nil (fun _ => rfl)⟩
    · have _t1 := True.intro
      refine XK.skip ?_
      refine XK.seq ?_
      refine XK.region rfl ?_
      refine XO.q (Q.ldA [_, _, _, _] rfl rfl rfl) ?_
      refine XO.q (Q.move rfl) ?_
      refine XO.q (Q.ldA [_, _, _] rfl rfl rfl) ?_
      refine XO.call Try.call43 rfl rfl rfl (next_spec7 h vr vw vb vc hr hw hb hc (hcheck_ok (Decidable.of_not_not c0)) t vt ht (both_ok (Decidable.of_not_not c1)).1 c (both_ok (Decidable.of_not_not c1)).2 vl hl) fun v29 s29 R29 => ?_
      obtain ⟨k1, rfl, O1⟩ := R29
      dsimp only [List.cons_append, List.nil_append]
      refine XO.q (Q.assign rfl) ?_
      refine XO.q (Q.assign rfl) ?_
      refine XO.done ?_
      refine XK.rt [k1] Try.func16 Try.results16 (.t rfl (.t rfl .n)) ?_
      have hw0 : nextG h t c = (nextL h t c, 0) := by rw [nextG, if_neg c0, if_neg c1]
      rw [hw0]
      exact ⟨_, k1, rfl, rfl, O1⟩
end Go.X

set_option linter.unusedSimpArgs false
set_option linter.unusedVariables false
set_option maxRecDepth 20000
namespace Go.X
open Go.Proofs
theorem below_spec (va vb : Value) (ha hb : PHeap) (a b : List Int) [ia : Arr va encI 1 ha a] [ib : Arr vb encI 1 hb b] : Spec Try.prog 11 #[va, vb] [] [ha, hb] (fun v hs => v = .bool (belowP a b) ∧ hs = []) := by
  refine Spec.intro (fn := Try.f11) (N := 26) Try.func11 rfl Try.ntmps11 rfl fun B => ?_
  refine XK.seq ?_
  refine XK.region rfl ?_
  refine XO.q (Q.assign rfl) ?_
  refine XO.done ?_
  refine XK.seq ?_
  refine XK.seq ?_
  refine XK.region rfl ?_
  refine XO.q (Q.move rfl) ?_
  refine XO.len rfl fun l7 => ?_
  refine XO.q (Q.move rfl) ?_
  refine XO.len rfl fun l9 => ?_
  refine XO.q (Q.neq rfl rfl) ?_
  refine XO.done ?_
  refine XK.if rfl (fun c0 => ?_) (fun c0 => ?_)
  · have _t0 := True.intro
    refine XK.seq ?_
    refine XK.region rfl ?_
    refine XO.q (Q.assign rfl) ?_
    refine XO.done ?_
    refine XK.rt [] Try.func11 Try.results11 (.t rfl .n) ?_
    exact ⟨by rw [belowP, decide_eq_false (by omega), Bool.false_and], rfl⟩
  · have _t0 := True.intro
    refine XK.skip ?_
    refine XK.seq ?_
    refine XK.seq ?_
    refine XK.region rfl ?_
    refine XO.q (Q.move rfl) ?_
    refine XO.len rfl fun l12 => ?_
    refine XO.q (Q.move rfl) ?_
    refine XO.done ?_
    refine XK.block ?_
    refine XK.while (X := Nat) [4, 5, 13, 14, 15, 16, 17, 18, 19, 20, 21, 22, 23, 24, 25] (fun i => [(13, some (.int .i64 (i : Nat)))]) (fun i => []) (fun i => i ≤ a.length ∧ allTo (fun i => decide (a.getD i 0 ≤ b.getD i 0)) i = true) (fun i => a.length - i) (0) [] rfl ⟨by omega, rfl⟩ (.c rfl (.base 0 rfl rfl)) ?_
    rintro i ⟨hi, ht⟩ ih0
    dsimp only [List.cons_append, List.nil_append] at ih0 ⊢
    refine XK.seq ?_
    refine XK.region rfl ?_
    refine XO.q (Q.lss rfl rfl) ?_
    refine XO.done ?_
    refine XK.seq ?_
    refine XK.if rfl (fun c1 => ?_) (fun c1 => ?_)
    · have _t1 := True.intro
      refine XK.skip ?_
      refine XK.seq ?_
      refine XK.block ?_
      refine XK.seq ?_
      refine XK.region rfl ?_
      refine XO.q (Q.move rfl) ?_
      refine XO.q (Q.assign rfl) ?_
      refine XO.done ?_
      refine XK.seq ?_
      refine XK.drawn [0, 1, 2, 3, 4, 5, 6, 7, 8] [] [] (.q 0 (.q 1 (.q 2 (.q 3 (.q 4 (.q 5 (.q 6 (.q 7 (.q 8 .done))))))))) Try.mixed rfl (by kernel_rfl) ?_
      refine XT.q rfl rfl (Q.move rfl) ?_
      refine XT.q rfl rfl (Q.move rfl) ?_
      refine XT.ix rfl rfl rfl rfl (by omega) (by omega) fun i18 => ?_
      refine XT.q rfl rfl (Q.ldE rfl (by first | assumption | omega) rfl) ?_
      refine XT.q rfl rfl (Q.move rfl) ?_
      refine XT.q rfl rfl (Q.move rfl) ?_
      refine XT.ix rfl rfl rfl rfl (by omega) (by omega) fun i22 => ?_
      refine XT.q rfl rfl (Q.ldE rfl (by first | assumption | omega) rfl) ?_
      refine XT.q rfl rfl (Q.gtr rfl rfl) ?_
      refine XT.done ?_
      refine XK.if rfl (fun c2 => ?_) (fun c2 => ?_)
      · have _t2 := True.intro
        refine XK.seq ?_
        refine XK.region rfl ?_
        refine XO.q (Q.assign rfl) ?_
        refine XO.done ?_
        refine XK.rt [] Try.func11 Try.results11 (.t rfl .n) ?_
        exact ⟨by rw [belowP, allTo_false (s := i) (by omega) (by rw [decide_eq_false_iff_not]; change b.getD i 0 < a.getD i 0 at c2; omega), Bool.and_false], rfl⟩
      · have _t2 := True.intro
        refine XK.skip ?_
        refine XK.inBlock ?_
        refine XK.region rfl ?_
        refine XO.q (Q.add rfl rfl ⟨by omega, by omega⟩) ?_
        refine XO.q (Q.move rfl) ?_
        refine XO.done ?_
        exact ih0 (i + 1) _ _ ⟨by omega, by rw [allTo_succ, ht, Bool.true_and, decide_eq_true_eq]; change ¬ (b.getD i 0 < a.getD i 0) at c2; omega⟩ (by first | omega | (dsimp only; omega)) (.c rfl (.base 30 rfl rfl)) inferInstance
    · have _t1 := True.intro
      refine XK.exit rfl ?_
      refine XK.seq ?_
      refine XK.region rfl ?_
      refine XO.q (Q.assign rfl) ?_
      refine XO.done ?_
      refine XK.rt [] Try.func11 Try.results11 (.t rfl .n) ?_
      have hn : i = a.length := by omega
      rw [hn] at ht
      exact ⟨by rw [belowP, ht, decide_eq_true (by omega), Bool.and_true], rfl⟩
theorem minI (v : Value) (h : PHeap) (xs : List Int) [s : Arr v encI 1 h xs] (hl : 0 < xs.length) : Spec Try.prog 13 #[v] [] [h] (fun v hs => v = .int .i64 (minTo xs xs.length) ∧ hs = []) := by
  refine Spec.intro (fn := Try.f13) (N := 25) Try.func13 rfl Try.ntmps13 rfl fun B => ?_
  refine XK.seq ?_
  refine XK.region rfl ?_
  refine XO.q (Q.assign rfl) ?_
  refine XO.done ?_
  refine XK.seq ?_
  refine XK.seq ?_
  refine XK.region rfl ?_
  refine XO.q (Q.move rfl) ?_
  refine XO.len rfl fun l6 => ?_
  refine XO.q (Q.lss rfl rfl) ?_
  refine XO.done ?_
  refine XK.if rfl (fun c0 => ?_) (fun c0 => ?_)
  · have _t0 := True.intro
    exact absurd c0 (by omega)
  · have _t0 := True.intro
    refine XK.skip ?_
    refine XK.seq ?_
    refine XK.region rfl ?_
    refine XO.q (Q.move rfl) ?_
    refine XO.ix rfl rfl (by omega) (by omega) fun i10 => ?_
    refine XO.q (Q.ldE rfl (by first | assumption | omega) rfl) ?_
    refine XO.q (Q.assign rfl) ?_
    refine XO.done ?_
    refine XK.seq ?_
    refine XK.seq ?_
    refine XK.region rfl ?_
    refine XO.q (Q.assign rfl) ?_
    refine XO.done ?_
    refine XK.block ?_
    refine XK.while (X := Nat × Int) [3, 4, 12, 13, 14, 15, 16, 17, 18, 19, 20, 21, 22, 23] (fun ⟨i, m⟩ => [(4, some (.int .i64 (i : Nat))), (3, some (.int .i64 m))]) (fun ⟨i, m⟩ => []) (fun ⟨i, m⟩ => i ≤ xs.length ∧ m = minTo xs i) (fun ⟨i, m⟩ => xs.length - i) (1, xs.getD 0 default) [] rfl ⟨by omega, (minTo_one xs).symm⟩ (.c rfl (.c rfl (.base 0 rfl rfl))) ?_
    rintro ⟨i, m⟩ ⟨hi, hm⟩ ih0
    dsimp only [List.cons_append, List.nil_append] at ih0 ⊢
    refine XK.seq ?_
    refine XK.seq ?_
    refine XK.region rfl ?_
    refine XO.q (Q.move rfl) ?_
    refine XO.q (Q.move rfl) ?_
    refine XO.len rfl fun l14 => ?_
    refine XO.q (Q.lss rfl rfl) ?_
    refine XO.done ?_
    refine XK.if rfl (fun c1 => ?_) (fun c1 => ?_)
    · have _t1 := True.intro
      refine XK.skip ?_
      refine XK.seq ?_
      refine XK.block ?_
      refine XK.region rfl ?_
      refine XO.q (Q.move rfl) ?_
      refine XO.q (Q.move rfl) ?_
      refine XO.q (Q.move rfl) ?_
      refine XO.ix rfl rfl (by omega) (by omega) fun i21 => ?_
      refine XO.q (Q.ldE rfl (by first | assumption | omega) rfl) ?_
      refine XO.q (Q.min rfl rfl) ?_
      refine XO.q (Q.assign rfl) ?_
      refine XO.done ?_
      refine XK.inBlock ?_
      refine XK.region rfl ?_
      refine XO.q (Q.move rfl) ?_
      refine XO.q (Q.add rfl rfl ⟨by omega, by omega⟩) ?_
      refine XO.q (Q.assign rfl) ?_
      refine XO.done ?_
      exact ih0 (i + 1, min m (xs.getD i default)) _ _ ⟨by dsimp only; omega, by dsimp only; rw [hm]; rfl⟩ (by first | omega | (dsimp only; omega)) (.c rfl (.c rfl (.base 30 rfl rfl))) inferInstance
    · have _t1 := True.intro
      refine XK.exit rfl ?_
      refine XK.seq ?_
      refine XK.region rfl ?_
      refine XO.q (Q.move rfl) ?_
      refine XO.q (Q.assign rfl) ?_
      refine XO.done ?_
      refine XK.rt [] Try.func13 Try.results13 (.t rfl .n) ?_
      have hn : i = xs.length := by omega
      rw [hn] at hm
      exact ⟨by rw [hm], rfl⟩
theorem maxI (v : Value) (h : PHeap) (xs : List Int) [s : Arr v encI 1 h xs] (hl : 0 < xs.length) : Spec Try.prog 18 #[v] [] [h] (fun v hs => v = .int .i64 (maxTo xs xs.length) ∧ hs = []) := by
  refine Spec.intro (fn := Try.f18) (N := 25) Try.func18 rfl Try.ntmps18 rfl fun B => ?_
  refine XK.seq ?_
  refine XK.region rfl ?_
  refine XO.q (Q.assign rfl) ?_
  refine XO.done ?_
  refine XK.seq ?_
  refine XK.seq ?_
  refine XK.region rfl ?_
  refine XO.q (Q.move rfl) ?_
  refine XO.len rfl fun l6 => ?_
  refine XO.q (Q.lss rfl rfl) ?_
  refine XO.done ?_
  refine XK.if rfl (fun c0 => ?_) (fun c0 => ?_)
  · have _t0 := True.intro
    exact absurd c0 (by omega)
  · have _t0 := True.intro
    refine XK.skip ?_
    refine XK.seq ?_
    refine XK.region rfl ?_
    refine XO.q (Q.move rfl) ?_
    refine XO.ix rfl rfl (by omega) (by omega) fun i10 => ?_
    refine XO.q (Q.ldE rfl (by first | assumption | omega) rfl) ?_
    refine XO.q (Q.assign rfl) ?_
    refine XO.done ?_
    refine XK.seq ?_
    refine XK.seq ?_
    refine XK.region rfl ?_
    refine XO.q (Q.assign rfl) ?_
    refine XO.done ?_
    refine XK.block ?_
    refine XK.while (X := Nat × Int) [3, 4, 12, 13, 14, 15, 16, 17, 18, 19, 20, 21, 22, 23] (fun ⟨i, m⟩ => [(4, some (.int .i64 (i : Nat))), (3, some (.int .i64 m))]) (fun ⟨i, m⟩ => []) (fun ⟨i, m⟩ => i ≤ xs.length ∧ m = maxTo xs i) (fun ⟨i, m⟩ => xs.length - i) (1, xs.getD 0 default) [] rfl ⟨by omega, (maxTo_one xs).symm⟩ (.c rfl (.c rfl (.base 0 rfl rfl))) ?_
    rintro ⟨i, m⟩ ⟨hi, hm⟩ ih0
    dsimp only [List.cons_append, List.nil_append] at ih0 ⊢
    refine XK.seq ?_
    refine XK.seq ?_
    refine XK.region rfl ?_
    refine XO.q (Q.move rfl) ?_
    refine XO.q (Q.move rfl) ?_
    refine XO.len rfl fun l14 => ?_
    refine XO.q (Q.lss rfl rfl) ?_
    refine XO.done ?_
    refine XK.if rfl (fun c1 => ?_) (fun c1 => ?_)
    · have _t1 := True.intro
      refine XK.skip ?_
      refine XK.seq ?_
      refine XK.block ?_
      refine XK.region rfl ?_
      refine XO.q (Q.move rfl) ?_
      refine XO.q (Q.move rfl) ?_
      refine XO.q (Q.move rfl) ?_
      refine XO.ix rfl rfl (by omega) (by omega) fun i21 => ?_
      refine XO.q (Q.ldE rfl (by first | assumption | omega) rfl) ?_
      refine XO.q (Q.max rfl rfl) ?_
      refine XO.q (Q.assign rfl) ?_
      refine XO.done ?_
      refine XK.inBlock ?_
      refine XK.region rfl ?_
      refine XO.q (Q.move rfl) ?_
      refine XO.q (Q.add rfl rfl ⟨by omega, by omega⟩) ?_
      refine XO.q (Q.assign rfl) ?_
      refine XO.done ?_
      exact ih0 (i + 1, max m (xs.getD i default)) _ _ ⟨by dsimp only; omega, by dsimp only; rw [hm]; rfl⟩ (by first | omega | (dsimp only; omega)) (.c rfl (.c rfl (.base 30 rfl rfl))) inferInstance
    · have _t1 := True.intro
      refine XK.exit rfl ?_
      refine XK.seq ?_
      refine XK.region rfl ?_
      refine XO.q (Q.move rfl) ?_
      refine XO.q (Q.assign rfl) ?_
      refine XO.done ?_
      refine XK.rt [] Try.func18 Try.results18 (.t rfl .n) ?_
      have hn : i = xs.length := by omega
      rw [hn] at hm
      exact ⟨by rw [hm], rfl⟩
theorem sorted_spec (va vb : Value) (ha hb : PHeap) (a b : List Int) [ia : Arr va encI 1 ha a] [ib : Arr vb encI 1 hb b] (hab : a.length = b.length) (hal : a.length ≤ 1000000) : Spec Try.prog 19 #[va, vb] [] [ha, hb]
    (fun v hs => ∃ v1 v2 k1 k2, v = .tuple #[v1, v2] ∧ hs = [k1, k2] ∧ OArr v1 encI 1 3 k1 (lowL a b) ∧ OArr v2 encI 1 3 k2 (highL a b)) := by
  refine Spec.intro (fn := Try.f19) (N := 45) Try.func19 rfl Try.ntmps19 rfl fun B => ?_
  refine XK.seq ?_
  refine XK.region rfl ?_
  refine XO.q (Q.assign rfl) ?_
  refine XO.q (Q.assign rfl) ?_
  refine XO.done ?_
  refine XK.seq ?_
  refine XK.region rfl ?_
  refine XO.q (Q.move rfl) ?_
  refine XO.call Try.call23 rfl rfl rfl (cloneI va ha a (by omega)) fun v10 s10 R10 => ?_
  obtain ⟨k10, rfl, O10⟩ := R10
  dsimp only [List.cons_append, List.nil_append]
  refine XO.q (Q.move rfl) ?_
  refine XO.call Try.call23 rfl rfl rfl (cloneI vb hb b (by omega)) fun v12 s12 R12 => ?_
  obtain ⟨k12, rfl, O12⟩ := R12
  dsimp only [List.cons_append, List.nil_append]
  refine XO.q (Q.assign rfl) ?_
  refine XO.q (Q.assign rfl) ?_
  refine XO.done ?_
  refine XK.seq ?_
  refine XK.seq ?_
  refine XK.region rfl ?_
  refine XO.q (Q.move rfl) ?_
  refine XO.len rfl fun l14 => ?_
  refine XO.q (Q.move rfl) ?_
  refine XO.done ?_
  refine XK.block ?_
  refine XK.while (X := Nat × PHeap × PHeap × List Int × List Int) [8, 15, 16, 17, 18, 19, 20, 21, 22, 23, 24, 25, 26, 27, 28, 29, 30, 31, 32, 33, 34, 35, 36, 37, 38, 39, 40, 41, 42] (fun ⟨i, kx, ky, x, y⟩ => [(15, some (.int .i64 (i : Nat)))]) (fun ⟨i, kx, ky, x, y⟩ => [kx, ky]) (fun ⟨i, kx, ky, x, y⟩ => i ≤ a.length ∧ x.length = a.length ∧ y.length = a.length ∧ (∀ j, j < i → x.getD j 0 = min (a.getD j 0) (b.getD j 0)) ∧ (∀ j, j < i → y.getD j 0 = max (a.getD j 0) (b.getD j 0)) ∧ OArr v10 encI 1 3 kx x ∧ OArr v12 encI 1 3 ky y) (fun ⟨i, kx, ky, x, y⟩ => a.length - i) (0, k10, k12, a, b) [k10, k12] rfl ⟨by omega, rfl, by omega, fun j hj => by omega, fun j hj => by omega, O10, O12⟩ (.c rfl (.base 0 rfl rfl)) ?_
  rintro ⟨i, kx, ky, x, y⟩ ⟨hi, hx, hy, hmx, hmy, OX, OY⟩ ih0
  dsimp only [List.cons_append, List.nil_append] at ih0 ⊢
  refine XK.seq ?_
  refine XK.region rfl ?_
  refine XO.q (Q.lss rfl rfl) ?_
  refine XO.done ?_
  refine XK.seq ?_
  refine XK.if rfl (fun c0 => ?_) (fun c0 => ?_)
  · have _t0 := True.intro
    refine XK.skip ?_
    refine XK.seq ?_
    refine XK.block ?_
    refine XK.seq ?_
    refine XK.region rfl ?_
    refine XO.q (Q.move rfl) ?_
    refine XO.q (Q.assign rfl) ?_
    refine XO.done ?_
    refine XK.drawn [0, 1, 2, 3, 4, 5, 6, 7, 8, 9, 10, 11, 12, 13, 14, 15, 16, 17, 18, 19, 20, 21, 22, 24] [] [] (.q 0 (.q 1 (.q 2 (.q 3 (.q 4 (.q 5 (.q 6 (.q 7 (.q 8 (.q 9 (.q 10 (.q 11 (.q 12 (.q 13 (.q 14 (.q 15 (.q 16 (.q 17 (.q 18 (.q 19 (.q 20 (.q 21 (.q 22 (.br 23 true (.q 24 (.br 25 false .done .stop)) .stop)))))))))))))))))))))))) Try.mixed rfl (by kernel_rfl) ?_
    refine XT.q rfl rfl (Q.move rfl) ?_
    refine XT.q rfl rfl (Q.move rfl) ?_
    refine XT.q rfl rfl (Q.move rfl) ?_
    refine XT.q rfl rfl (Q.move rfl) ?_
    refine XT.q rfl rfl (Q.move rfl) ?_
    refine XT.q rfl rfl (Q.move rfl) ?_
    refine XT.ix rfl rfl rfl rfl (by omega) (by omega) fun i24 => ?_
    refine XT.q rfl rfl (Q.ldE rfl (by first | assumption | omega) rfl) ?_
    refine XT.q rfl rfl (Q.move rfl) ?_
    refine XT.q rfl rfl (Q.move rfl) ?_
    refine XT.ix rfl rfl rfl rfl (by omega) (by omega) fun i28 => ?_
    refine XT.q rfl rfl (Q.ldE rfl (by first | assumption | omega) rfl) ?_
    refine XT.q rfl rfl (Q.min rfl rfl) ?_
    refine XT.q rfl rfl (Q.move rfl) ?_
    refine XT.q rfl rfl (Q.move rfl) ?_
    refine XT.ix rfl rfl rfl rfl (by omega) (by omega) fun i33 => ?_
    refine XT.q rfl rfl (Q.ldE rfl (by first | assumption | omega) rfl) ?_
    refine XT.q rfl rfl (Q.move rfl) ?_
    refine XT.q rfl rfl (Q.move rfl) ?_
    refine XT.ix rfl rfl rfl rfl (by omega) (by omega) fun i37 => ?_
    refine XT.q rfl rfl (Q.ldE rfl (by first | assumption | omega) rfl) ?_
    refine XT.q rfl rfl (Q.max rfl rfl) ?_
    refine XT.ix rfl rfl rfl rfl (by omega) (by omega) fun i40 => ?_
    refine XT.stE _ rfl rfl rfl rfl rfl (by assumption) rfl rfl (fun h5_23 O5_23 => ⟨inferInstance, ?_⟩) XT.stop
    refine XT.ix rfl rfl rfl rfl (by omega) (by omega) fun i41 => ?_
    refine XT.stE _ rfl rfl rfl rfl rfl (by assumption) rfl rfl (fun h5_25 O5_25 => ⟨inferInstance, ?_⟩) XT.stop
    refine XT.done ?_
    refine XK.inBlock ?_
    refine XK.region rfl ?_
    refine XO.q (Q.add rfl rfl ⟨by omega, by omega⟩) ?_
    refine XO.q (Q.move rfl) ?_
    refine XO.done ?_
    exact ih0 (i + 1, h5_23, h5_25, _, _) _ _ ⟨by dsimp only; omega, by simp only [List.length_set]; exact hx, by simp only [List.length_set]; exact hy, set_upto (by omega) hmx rfl, set_upto (by omega) hmy rfl, O5_23, O5_25⟩ (by first | omega | (dsimp only; omega)) (.c rfl (.base 59 rfl rfl)) inferInstance
  · have _t0 := True.intro
    refine XK.exit rfl ?_
    refine XK.seq ?_
    refine XK.region rfl ?_
    refine XO.q (Q.move rfl) ?_
    refine XO.q (Q.move rfl) ?_
    refine XO.q (Q.assign rfl) ?_
    refine XO.q (Q.assign rfl) ?_
    refine XO.done ?_
    refine XK.rt [kx, ky] Try.func19 Try.results19 (.t rfl (.t rfl .n)) ?_
    have hn : i = a.length := by omega
    rw [hn] at hmx hmy
    rw [eq_map_range hx hmx] at OX
    rw [eq_map_range hy hmy] at OY
    exact ⟨_, _, kx, ky, rfl, rfl, OX, OY⟩
theorem classed_spec (va vb : Value) (ha hb : PHeap) (a b : HCase) [ia : Arr va encI 1 ha a.load] [ib : Arr vb encI 1 hb b.load] (hab : a.load.length = b.load.length) (hal : a.load.length ≤ 1000000) : Spec Try.prog 20 #[.agg #[va, .int .i64 a.out, .int .i64 a.pump], .agg #[vb, .int .i64 b.out, .int .i64 b.pump]] [] [ha, hb]
    (fun v hs => ∃ v1 v2 k1 k2, v = .agg #[v1, .int .i64 (lowC a b).out, .int .i64 (lowC a b).pump, v2, .int .i64 (highC a b).out, .int .i64 (highC a b).pump] ∧ hs = [k1, k2] ∧ OArr v1 encI 1 3 k1 (lowC a b).load ∧ OArr v2 encI 1 3 k2 (highC a b).load) := by
  refine Spec.intro (fn := Try.f20) (N := 40) Try.func20 rfl Try.ntmps20 rfl fun B => ?_
  refine XK.seq ?_
  refine XK.region rfl ?_
  refine XO.box rfl fun b2 => ?_
  refine XO.box rfl fun b3 => ?_
  refine XO.alloc fun b4 => ?_
  refine XO.done ?_
  refine XK.seq ?_
  refine XK.region rfl ?_
  refine XO.q (Q.fieldAddr rfl) ?_
  refine XO.q (Q.ld rfl rfl) ?_
  refine XO.q (Q.fieldAddr rfl) ?_
  refine XO.q (Q.ld rfl rfl) ?_
  refine XO.call Try.call19 rfl rfl rfl (sorted_spec va vb ha hb a.load b.load hab hal) fun v12 s12 R12 => ?_
  obtain ⟨w1, w2, k1, k2, rfl, rfl, O1, O2⟩ := R12
  dsimp only [List.cons_append, List.nil_append]
  refine XO.q (Q.move rfl) ?_
  refine XO.q (Q.extract rfl rfl) ?_
  refine XO.q (Q.extract rfl rfl) ?_
  refine XO.q (Q.assign rfl) ?_
  refine XO.q (Q.assign rfl) ?_
  refine XO.done ?_
  refine XK.seq ?_
  refine XK.region rfl ?_
  refine XO.q (Q.move rfl) ?_
  refine XO.q (Q.fieldAddr rfl) ?_
  refine XO.q (Q.ld rfl rfl) ?_
  refine XO.q (Q.fieldAddr rfl) ?_
  refine XO.q (Q.ld rfl rfl) ?_
  refine XO.q (Q.min rfl rfl) ?_
  refine XO.q (Q.fieldAddr rfl) ?_
  refine XO.q (Q.ld rfl rfl) ?_
  refine XO.q (Q.fieldAddr rfl) ?_
  refine XO.q (Q.ld rfl rfl) ?_
  refine XO.q (Q.max rfl rfl) ?_
  refine XO.q (Q.build [_, _, _] (.c 0 1 rfl rfl rfl (.c 1 1 rfl rfl rfl (.c 2 1 rfl rfl rfl (.n _))))) ?_
  refine XO.q (Q.move rfl) ?_
  refine XO.q (Q.fieldAddr rfl) ?_
  refine XO.q (Q.ld rfl rfl) ?_
  refine XO.q (Q.fieldAddr rfl) ?_
  refine XO.q (Q.ld rfl rfl) ?_
  refine XO.q (Q.max rfl rfl) ?_
  refine XO.q (Q.fieldAddr rfl) ?_
  refine XO.q (Q.ld rfl rfl) ?_
  refine XO.q (Q.fieldAddr rfl) ?_
  refine XO.q (Q.ld rfl rfl) ?_
  refine XO.q (Q.min rfl rfl) ?_
  refine XO.q (Q.build [_, _, _] (.c 0 1 rfl rfl rfl (.c 1 1 rfl rfl rfl (.c 2 1 rfl rfl rfl (.n _))))) ?_
  refine XO.q (Q.build [_, _, _, _, _, _] (.c 0 3 rfl rfl rfl (.c 3 3 rfl rfl rfl (.n _)))) ?_
  refine XO.st rfl rfl rfl ?_
  refine XO.done ?_
  refine XK.rt [k1, k2] Try.func20 Try.results20 (.cell [_, _, _, _, _, _] rfl rfl rfl (.n)) ?_
  exact ⟨w1, w2, k1, k2, rfl, rfl, O1, O2⟩
theorem warm_made (vr vw vb vc : Value) (hr : PHeap) (rs : List HRoom) [ir : Arr vr encRoom 2 hr rs] [iw : One vw] [ib : One vb] [ic : One vc] (hn : rs.length ≤ 8) (vl : Value) (hl : PHeap) (l : List UInt8) [sl : Arr vl encU8 1 hl l] : Spec Try.prog 14 #[.agg #[vr, vw, vb, vc], vl] [] [hr, hl]
    (fun v hs => ∃ t k, hs = [k] ∧ OArr v encI 1 3 k t ∧ WarmOk rs.length t) := by
  have hnil : OArr (.slice none 0 0) encI 1 3 emp ([] : List Int) := OArr.nil (fun _ => rfl)
  refine Spec.intro (fn := Try.f14) (N := 24) Try.func14 rfl Try.ntmps14 rfl fun B => ?_
  refine XK.seq ?_
  refine XK.region rfl ?_
  refine XO.box rfl fun b2 => ?_
  refine XO.q (Q.assign rfl) ?_
  refine XO.done ?_
  refine XK.seq ?_
  refine XK.region rfl ?_
  refine XO.q (Q.move rfl) ?_
  refine XO.q (Q.build [_, _] (.c 0 1 rfl rfl rfl (.n _))) ?_
  refine XO.box rfl fun b9 => ?_
  refine XO.q (Q.assign rfl) ?_
  refine XO.done ?_
  refine XK.seq ?_
  refine XK.region rfl ?_
  refine XO.q (Q.assign rfl) ?_
  refine XO.done ?_
  refine XK.seq ?_
  refine XK.seq ?_
  refine XK.region rfl ?_
  refine XO.q (Q.fieldAddr rfl) ?_
  refine XO.q (Q.ld rfl rfl) ?_
  refine XO.len rfl fun l12 => ?_
  refine XO.q (Q.move rfl) ?_
  refine XO.done ?_
  refine XK.block ?_
  refine XK.while (X := Nat × Value × PHeap × List Int) [6, 13, 14, 15, 16, 17, 18, 19, 20, 21, 22] (fun ⟨i, v, k, t⟩ => [(13, some (.int .i64 (i : Nat))), (6, some (v))]) (fun ⟨i, v, k, t⟩ => [blk b9 [vl, .int .i64 ((i : Nat) : Int)] 99, k]) (fun ⟨i, v, k, t⟩ => i ≤ rs.length ∧ OArr v encI 1 3 k t ∧ WarmOk i t) (fun ⟨i, v, k, t⟩ => rs.length - i) (0, .slice none 0 0, emp, []) [blk b9 [vl, .int .i64 ((0 : Nat) : Int)] 99, emp] rfl ⟨by omega, hnil, rfl, fun j hj => by cases hj⟩ (.c rfl (.c rfl (.base 0 rfl rfl))) ?_
  rintro ⟨i, v, k, t⟩ ⟨hi, OT, htl, htr⟩ ih0
  dsimp only [List.cons_append, List.nil_append] at ih0 ⊢
  refine XK.seq ?_
  refine XK.region rfl ?_
  refine XO.q (Q.lss rfl rfl) ?_
  refine XO.done ?_
  refine XK.seq ?_
  refine XK.if rfl (fun c0 => ?_) (fun c0 => ?_)
  · have _t0 := True.intro
    refine XK.skip ?_
    refine XK.seq ?_
    refine XK.block ?_
    refine XK.region rfl ?_
    refine XO.q (Q.move rfl) ?_
    refine XO.q (Q.move rfl) ?_
    refine XO.callB b9 Try.call35 rfl rfl rfl (next7 b9 vl hl l (i) (256) (by omega) (by omega) (by omega)) fun v17 s17 R17 => ?_
    obtain ⟨rfl, n17, rfl, h17⟩ := R17
    dsimp only [List.cons_append, List.nil_append]
    refine XO.q (Q.mul rfl rfl ⟨by omega, by omega⟩) ?_
    refine XO.q (Q.add rfl rfl ⟨by omega, by omega⟩) ?_
    refine XO.lit [_] [_] [_] encI (by rfl) (by rfl) rfl (by rfl) (by exact .c 0 1 rfl rfl rfl (.n _)) (fun _ => rfl) (by rfl) rfl (by infer_instance) rfl fun v20 h20 O20 => ?_
    refine XO.append rfl rfl rfl rfl (by simp only [List.length_cons, List.length_nil]; omega) fun v21 h21 O21 => ?_
    refine XO.q (Q.assign rfl) ?_
    refine XO.done ?_
    refine XK.inBlock ?_
    refine XK.region rfl ?_
    refine XO.q (Q.add rfl rfl ⟨by omega, by omega⟩) ?_
    refine XO.q (Q.move rfl) ?_
    refine XO.done ?_
    exact ih0 (i + 1, v21, h21, _) _ _ ⟨by dsimp only; omega, O21, snoc_ok htl htr (by omega)⟩ (by first | omega | (dsimp only; omega)) (.c rfl (.c rfl (.base 24 rfl rfl))) inferInstance
  · have _t0 := True.intro
    refine XK.exit rfl ?_
    refine XK.seq ?_
    refine XK.region rfl ?_
    refine XO.q (Q.move rfl) ?_
    refine XO.q (Q.assign rfl) ?_
    refine XO.done ?_
    refine XK.rt [k] Try.func14 Try.results14 (.t rfl .n) ?_
    have hin : i = rs.length := by omega
    rw [hin] at htl
    exact ⟨t, k, rfl, OT, htl, htr⟩
theorem cased_made (vr vw vb vc : Value) (hr : PHeap) (rs : List HRoom) [ir : Arr vr encRoom 2 hr rs] [iw : One vw] [ib : One vb] [ic : One vc] (hn : rs.length ≤ 8) (vl : Value) (hl : PHeap) (l : List UInt8) [sl : Arr vl encU8 1 hl l] : Spec Try.prog 15 #[.agg #[vr, vw, vb, vc], vl] [] [hr, hl]
    (fun v hs => ∃ (c : HCase) (v1 : Value) (k : PHeap), v = .agg #[v1, .int .i64 c.out, .int .i64 c.pump] ∧ hs = [k] ∧ OArr v1 encI 1 3 k c.load ∧ CasedOk rs.length c) := by
  have hnil : OArr (.slice none 0 0) encI 1 3 emp ([] : List Int) := OArr.nil (fun _ => rfl)
  refine Spec.intro (fn := Try.f15) (N := 33) Try.func15 rfl Try.ntmps15 rfl fun B => ?_
  refine XK.seq ?_
  refine XK.region rfl ?_
  refine XO.box rfl fun b2 => ?_
  refine XO.alloc fun b4 => ?_
  refine XO.done ?_
  refine XK.seq ?_
  refine XK.region rfl ?_
  refine XO.q (Q.move rfl) ?_
  refine XO.q (Q.build [_, _] (.c 0 1 rfl rfl rfl (.n _))) ?_
  refine XO.box rfl fun b9 => ?_
  refine XO.q (Q.assign rfl) ?_
  refine XO.done ?_
  refine XK.seq ?_
  refine XK.region rfl ?_
  refine XO.q (Q.move rfl) ?_
  refine XO.callB b9 Try.call35 rfl rfl rfl (next7 b9 vl hl l (0) (256) (by omega) (by omega) (by omega)) fun v11 s11 R11 => ?_
  obtain ⟨rfl, n11, rfl, h11⟩ := R11
  dsimp only [List.cons_append, List.nil_append]
  refine XO.q (Q.mul rfl rfl ⟨by omega, by omega⟩) ?_
  refine XO.q (Q.add rfl rfl ⟨by omega, by omega⟩) ?_
  refine XO.q (Q.move rfl) ?_
  refine XO.callB b9 Try.call35 rfl rfl rfl (next7 b9 vl hl l (0 + 1) (256) (by omega) (by omega) (by omega)) fun v15 s15 R15 => ?_
  obtain ⟨rfl, n15, rfl, h15⟩ := R15
  dsimp only [List.cons_append, List.nil_append]
  refine XO.q (Q.mul rfl rfl ⟨by omega, by omega⟩) ?_
  refine XO.q (Q.build [_, _, _] (.c 1 1 rfl rfl rfl (.c 2 1 rfl rfl rfl (.n _)))) ?_
  refine XO.alloc fun b6 => ?_
  refine XO.st rfl rfl rfl ?_
  refine XO.done ?_
  refine XK.seq ?_
  refine XK.seq ?_
  refine XK.region rfl ?_
  refine XO.q (Q.fieldAddr rfl) ?_
  refine XO.q (Q.ld rfl rfl) ?_
  refine XO.len rfl fun l20 => ?_
  refine XO.q (Q.move rfl) ?_
  refine XO.done ?_
  refine XK.block ?_
  refine XK.while (X := Nat × Value × PHeap × List Int) [21, 22, 23, 24, 25, 26, 27, 28, 29, 30, 31] (fun ⟨i, v, k, t⟩ => [(21, some (.int .i64 (i : Nat)))]) (fun ⟨i, v, k, t⟩ => [blk b6 [v, .int .i64 (10000 + 100 * (n11 : Int)), .int .i64 (10 * (n15 : Int))] 43, blk b9 [vl, .int .i64 ((i + 1 + 1 : Nat) : Int)] 99, k]) (fun ⟨i, v, k, t⟩ => i ≤ rs.length ∧ OArr v encI 1 3 k t ∧ LoadOk i t) (fun ⟨i, v, k, t⟩ => rs.length - i) (0, .slice none 0 0, emp, []) [blk b6 [.slice none 0 0, .int .i64 (10000 + 100 * (n11 : Int)), .int .i64 (10 * (n15 : Int))] 43, blk b9 [vl, .int .i64 ((0 + 1 + 1 : Nat) : Int)] 99, emp] rfl ⟨by omega, hnil, rfl, fun j hj => by cases hj⟩ (.c rfl (.base 0 rfl rfl)) ?_
  rintro ⟨i, v, k, t⟩ ⟨hi, OT, htl, htr⟩ ih0
  dsimp only [List.cons_append, List.nil_append] at ih0 ⊢
  refine XK.seq ?_
  refine XK.region rfl ?_
  refine XO.q (Q.lss rfl rfl) ?_
  refine XO.done ?_
  refine XK.seq ?_
  refine XK.if rfl (fun c0 => ?_) (fun c0 => ?_)
  · have _t0 := True.intro
    refine XK.skip ?_
    refine XK.seq ?_
    refine XK.block ?_
    refine XK.drawn [0, 1, 2, 4, 7] [b6] [] (.q 0 (.q 1 (.q 2 (.br 3 true (.q 4 (.br 5 true (.br 6 true (.q 7 (.br 8 false .done .stop)) .stop) .stop)) .stop)))) Try.mixed rfl (by kernel_rfl) ?_
    refine XT.q rfl rfl (Q.fieldAddr rfl) ?_
    refine XT.q rfl rfl (Q.ld rfl rfl) ?_
    refine XT.q rfl rfl (Q.move rfl) ?_
    refine XT.callB b9 rfl rfl Try.call35 rfl rfl rfl (next7 b9 vl hl l (i + 1 + 1) (256) (by omega) (by omega) (by omega)) (fun v26 s26 R26 => ?_) XT.stop
    obtain ⟨rfl, n26, rfl, h26⟩ := R26
    dsimp only [List.cons_append, List.nil_append]
    refine ⟨inferInstance, ?_⟩
    refine XT.q rfl rfl (Q.mul rfl rfl ⟨by omega, by omega⟩) ?_
    refine XT.lit [_] [_] [_] encI rfl rfl (by rfl) (by rfl) rfl (by rfl) (by exact .c 0 1 rfl rfl rfl (.n _)) (fun _ => rfl) (by rfl) rfl (by infer_instance) rfl (fun v28 h28 O28 => ⟨inferInstance, ?_⟩) XT.stop
    refine XT.append rfl rfl rfl rfl rfl rfl (by simp only [List.length_cons, List.length_nil]; omega) (fun v29 h29 O29 => ⟨inferInstance, ?_⟩) XT.stop
    refine XT.q rfl rfl (Q.fieldAddr rfl) ?_
    refine XT.st rfl rfl rfl rfl rfl ⟨inferInstance, ?_⟩ XT.stop
    refine XT.done ?_
    refine XK.inBlock ?_
    refine XK.region rfl ?_
    refine XO.q (Q.add rfl rfl ⟨by omega, by omega⟩) ?_
    refine XO.q (Q.move rfl) ?_
    refine XO.done ?_
    exact ih0 (i + 1, v29, h29, _) _ _ ⟨by dsimp only; omega, O29, snoc_ok2 htl htr (by omega)⟩ (by first | omega | (dsimp only; omega)) (.c rfl (.base 23 rfl rfl)) inferInstance
  · have _t0 := True.intro
    refine XK.exit rfl ?_
    refine XK.seq ?_
    refine XK.region rfl ?_
    refine XO.q (Q.ldA [_, _, _] rfl rfl rfl) ?_
    refine XO.st rfl rfl rfl ?_
    refine XO.done ?_
    refine XK.rt [k] Try.func15 Try.results15 (.cell [_, _, _] rfl rfl rfl (.n)) ?_
    have hin : i = rs.length := by omega
    rw [hin] at htl
    exact ⟨⟨t, 10000 + 100 * (n11 : Int), 10 * (n15 : Int)⟩, v, k, rfl, rfl, OT, ⟨htl, htr⟩, by dsimp only; omega, by dsimp only; omega⟩
theorem example7 (pump : Int) : Spec Try.prog 25 #[.int .i64 pump] [] [] (fun v hs => ∃ vr vw vb vc vl kr kw kb kc kl, v = .tuple #[.agg #[vr, vw, vb, vc], .agg #[vl, .int .i64 (exCase pump).out, .int .i64 (exCase pump).pump]] ∧ hs = [kr, kw, kb, kc, kl] ∧
    OArr vr encRoom 2 48 kr exHall.rooms ∧ OArr vw encWall 3 50 kw exHall.walls ∧ OArr vb encBranch 3 38 kb exHall.branches ∧ OArr vc encCooler 5 52 kc exHall.coolers ∧ OArr vl encI 1 3 kl (exCase pump).load) := by
  refine Spec.intro (fn := Try.f25) (N := 16) Try.func25 rfl Try.ntmps25 rfl fun B => ?_
  refine XK.seq ?_
  refine XK.region rfl ?_
  refine XO.alloc fun b2 => ?_
  refine XO.alloc fun b3 => ?_
  refine XO.done ?_
  refine XK.seq ?_
  refine XK.region rfl ?_
  refine XO.q (Q.build [_, _] (.c 0 1 rfl rfl rfl (.c 1 1 rfl rfl rfl (.n _)))) ?_
  refine XO.lit [_, _] [_, _] [⟨1000, 30000⟩] encRoom (by rfl) (by rfl) rfl (by rfl) (by exact .c 0 2 rfl rfl rfl (.n _)) (fun _ => rfl) (by rfl) rfl (by infer_instance) rfl fun v5 h5 O5 => ?_
  refine XO.q (Q.build [_, _, _] (.c 0 1 rfl rfl rfl (.c 1 1 rfl rfl rfl (.c 2 1 rfl rfl rfl (.n _))))) ?_
  refine XO.lit [_, _, _] [_, _, _] [⟨0, -1, 10⟩] encWall (by rfl) (by rfl) rfl (by rfl) (by exact .c 0 3 rfl rfl rfl (.n _)) (fun _ => rfl) (by rfl) rfl (by infer_instance) rfl fun v7 h7 O7 => ?_
  refine XO.q (Q.build [_, _, _] (.c 0 1 rfl rfl rfl (.c 1 1 rfl rfl rfl (.n _)))) ?_
  refine XO.lit [_, _, _] [_, _, _] [⟨-1, 100, 0⟩] encBranch (by rfl) (by rfl) rfl (by rfl) (by exact .c 0 3 rfl rfl rfl (.n _)) (fun _ => rfl) (by rfl) rfl (by infer_instance) rfl fun v9 h9 O9 => ?_
  refine XO.q (Q.build [_, _, _, _, _] (.c 2 1 rfl rfl rfl (.c 3 1 rfl rfl rfl (.c 4 1 rfl rfl rfl (.n _))))) ?_
  refine XO.lit [_, _, _, _, _] [_, _, _, _, _] [⟨0, 0, 50, 4, 18000⟩] encCooler (by rfl) (by rfl) rfl (by rfl) (by exact .c 0 5 rfl rfl rfl (.n _)) (fun _ => rfl) (by rfl) rfl (by infer_instance) rfl fun v11 h11 O11 => ?_
  refine XO.q (Q.build [_, _, _, _] (.c 0 1 rfl rfl rfl (.c 1 1 rfl rfl rfl (.c 2 1 rfl rfl rfl (.c 3 1 rfl rfl rfl (.n _)))))) ?_
  refine XO.lit [_] [_] [100000] encI (by rfl) (by rfl) rfl (by rfl) (by exact .c 0 1 rfl rfl rfl (.n _)) (fun _ => rfl) (by rfl) rfl (by infer_instance) rfl fun v13 h13 O13 => ?_
  refine XO.q (Q.move rfl) ?_
  refine XO.q (Q.build [_, _, _] (.c 0 1 rfl rfl rfl (.c 1 1 rfl rfl rfl (.c 2 1 rfl rfl rfl (.n _))))) ?_
  refine XO.st rfl rfl rfl ?_
  refine XO.st rfl rfl rfl ?_
  refine XO.done ?_
  refine XK.rt [h5, h7, h9, h11, h13] Try.func25 Try.results25 (.cell [_, _, _, _] rfl rfl rfl (.cell [_, _, _] rfl rfl rfl (.n))) ?_
  exact ⟨v5, v7, v9, v11, v13, h5, h7, h9, h11, h13, rfl, rfl, O5, O7, O9, O11, O13⟩
end Go.X
