/- The type table of this seat as instances; written by program. No condition. -/
import Derived.Test.YtfenlpoaphbfgaaX13
import Derived.Test.YtfenlpoaphbfgaaProg
import Derived.KernelRfl
namespace Go.X
open Go.Proofs
set_option maxRecDepth 10000
instance : Und Try.prog 0 (Go.TypeDesc.tuple #[]) := ⟨Try.runUnderlying0⟩
instance : IsAgg Try.prog 0 false := ⟨Try.isAgg0⟩
instance : TySize Try.prog 0 1 := ⟨Try.sizeOf0⟩
instance : TyBytes Try.prog 0 0 := ⟨_, Try.typeInfo0, rfl⟩
instance : Zero Try.prog 0 [(Go.Value.tuple #[])] := ⟨_, Try.zeroValue0, rfl⟩
instance : Und Try.prog 1 (Go.TypeDesc.func #[] #[] Bool.false) := ⟨Try.runUnderlying1⟩
instance : IsAgg Try.prog 1 false := ⟨Try.isAgg1⟩
instance : TySize Try.prog 1 1 := ⟨Try.sizeOf1⟩
instance : TyBytes Try.prog 1 8 := ⟨_, Try.typeInfo1, rfl⟩
instance : Zero Try.prog 1 [Go.Value.nilFunc] := ⟨_, Try.zeroValue1, rfl⟩
instance : Und Try.prog 2 (Go.TypeDesc.int Go.IntKind.i64) := ⟨Try.runUnderlying2⟩
instance : IsAgg Try.prog 2 false := ⟨Try.isAgg2⟩
instance : TySize Try.prog 2 1 := ⟨Try.sizeOf2⟩
instance : TyBytes Try.prog 2 8 := ⟨_, Try.typeInfo2, rfl⟩
instance : Zero Try.prog 2 [(Go.Value.int Go.IntKind.i64 0)] := ⟨_, Try.zeroValue2, rfl⟩
instance : Und Try.prog 3 (Go.TypeDesc.int Go.IntKind.i64) := ⟨Try.runUnderlying3⟩
instance : IsAgg Try.prog 3 false := ⟨Try.isAgg3⟩
instance : TySize Try.prog 3 1 := ⟨Try.sizeOf3⟩
instance : TyBytes Try.prog 3 8 := ⟨_, Try.typeInfo3, rfl⟩
instance : Zero Try.prog 3 [(Go.Value.int Go.IntKind.i64 0)] := ⟨_, Try.zeroValue3, rfl⟩
instance : Und Try.prog 4 Go.TypeDesc.bool := ⟨Try.runUnderlying4⟩
instance : IsAgg Try.prog 4 false := ⟨Try.isAgg4⟩
instance : TySize Try.prog 4 1 := ⟨Try.sizeOf4⟩
instance : TyBytes Try.prog 4 1 := ⟨_, Try.typeInfo4, rfl⟩
instance : Zero Try.prog 4 [(Go.Value.bool Bool.false)] := ⟨_, Try.zeroValue4, rfl⟩
instance : Und Try.prog 5 (Go.TypeDesc.int Go.IntKind.u8) := ⟨Try.runUnderlying5⟩
instance : IsAgg Try.prog 5 false := ⟨Try.isAgg5⟩
instance : TySize Try.prog 5 1 := ⟨Try.sizeOf5⟩
instance : TyBytes Try.prog 5 1 := ⟨_, Try.typeInfo5, rfl⟩
instance : Zero Try.prog 5 [(Go.Value.int Go.IntKind.u8 0)] := ⟨_, Try.zeroValue5, rfl⟩
instance : Und Try.prog 6 (Go.TypeDesc.int Go.IntKind.u8) := ⟨Try.runUnderlying6⟩
instance : IsAgg Try.prog 6 false := ⟨Try.isAgg6⟩
instance : TySize Try.prog 6 1 := ⟨Try.sizeOf6⟩
instance : TyBytes Try.prog 6 1 := ⟨_, Try.typeInfo6, rfl⟩
instance : Zero Try.prog 6 [(Go.Value.int Go.IntKind.u8 0)] := ⟨_, Try.zeroValue6, rfl⟩
instance : Und Try.prog 7 (Go.TypeDesc.struct #[(Go.Field.mk "x" 2 0 Bool.false "" "runtime" 0), (Go.Field.mk "y" 3 1 Bool.false "" "runtime" 8), (Go.Field.mk "signed" 4 2 Bool.false "" "runtime" 16), (Go.Field.mk "code" 6 3 Bool.false "" "runtime" 17)]) := ⟨Try.runUnderlying7⟩
instance : IsAgg Try.prog 7 true := ⟨Try.isAgg7⟩
instance : TySize Try.prog 7 4 := ⟨Try.sizeOf7⟩
instance : TyBytes Try.prog 7 24 := ⟨_, Try.typeInfo7, rfl⟩
instance : Zero Try.prog 7 [(Go.Value.int Go.IntKind.i64 0), (Go.Value.int Go.IntKind.i64 0), (Go.Value.bool Bool.false), (Go.Value.int Go.IntKind.u8 0)] := ⟨_, Try.zeroValue7, rfl⟩
instance : Fld Try.prog 7 0 0 := Fld.of (n := 1) ⟨Try.runUnderlying7⟩ rfl ⟨Try.sizeOf2⟩ (by decide) rfl
instance : Fld Try.prog 7 1 1 := Fld.of (n := 1) ⟨Try.runUnderlying7⟩ rfl ⟨Try.sizeOf3⟩ (by decide) rfl
instance : Fld Try.prog 7 2 2 := Fld.of (n := 1) ⟨Try.runUnderlying7⟩ rfl ⟨Try.sizeOf4⟩ (by decide) rfl
instance : Fld Try.prog 7 3 3 := Fld.of (n := 1) ⟨Try.runUnderlying7⟩ rfl ⟨Try.sizeOf6⟩ (by decide) rfl
instance : Places Try.prog 7 (fun i => ([(0, 1), (1, 1), (2, 1), (3, 1)] : List (Nat × Nat))[i]?) := Places.struct ⟨Try.runUnderlying7⟩ (.c Try.sizeOf2 (.c Try.sizeOf3 (.c Try.sizeOf4 (.c Try.sizeOf6 .n))))
instance : Und Try.prog 8 (Go.TypeDesc.struct #[(Go.Field.mk "x" 2 0 Bool.false "" "runtime" 0), (Go.Field.mk "y" 3 1 Bool.false "" "runtime" 8), (Go.Field.mk "signed" 4 2 Bool.false "" "runtime" 16), (Go.Field.mk "code" 6 3 Bool.false "" "runtime" 17)]) := ⟨Try.runUnderlying8⟩
instance : IsAgg Try.prog 8 true := ⟨Try.isAgg8⟩
instance : TySize Try.prog 8 4 := ⟨Try.sizeOf8⟩
instance : TyBytes Try.prog 8 24 := ⟨_, Try.typeInfo8, rfl⟩
instance : Zero Try.prog 8 [(Go.Value.int Go.IntKind.i64 0), (Go.Value.int Go.IntKind.i64 0), (Go.Value.bool Bool.false), (Go.Value.int Go.IntKind.u8 0)] := ⟨_, Try.zeroValue8, rfl⟩
instance : Fld Try.prog 8 0 0 := Fld.of (n := 1) ⟨Try.runUnderlying8⟩ rfl ⟨Try.sizeOf2⟩ (by decide) rfl
instance : Fld Try.prog 8 1 1 := Fld.of (n := 1) ⟨Try.runUnderlying8⟩ rfl ⟨Try.sizeOf3⟩ (by decide) rfl
instance : Fld Try.prog 8 2 2 := Fld.of (n := 1) ⟨Try.runUnderlying8⟩ rfl ⟨Try.sizeOf4⟩ (by decide) rfl
instance : Fld Try.prog 8 3 3 := Fld.of (n := 1) ⟨Try.runUnderlying8⟩ rfl ⟨Try.sizeOf6⟩ (by decide) rfl
instance : Places Try.prog 8 (fun i => ([(0, 1), (1, 1), (2, 1), (3, 1)] : List (Nat × Nat))[i]?) := Places.struct ⟨Try.runUnderlying8⟩ (.c Try.sizeOf2 (.c Try.sizeOf3 (.c Try.sizeOf4 (.c Try.sizeOf6 .n))))
instance : Und Try.prog 9 Go.TypeDesc.string := ⟨Try.runUnderlying9⟩
instance : IsAgg Try.prog 9 false := ⟨Try.isAgg9⟩
instance : TySize Try.prog 9 1 := ⟨Try.sizeOf9⟩
instance : TyBytes Try.prog 9 16 := ⟨_, Try.typeInfo9, rfl⟩
instance : Zero Try.prog 9 [(Go.Value.string (ByteArray.mk #[]))] := ⟨_, Try.zeroValue9, rfl⟩
instance : Und Try.prog 12 (Go.TypeDesc.int Go.IntKind.u64) := ⟨Try.runUnderlying12⟩
instance : IsAgg Try.prog 12 false := ⟨Try.isAgg12⟩
instance : TySize Try.prog 12 1 := ⟨Try.sizeOf12⟩
instance : TyBytes Try.prog 12 8 := ⟨_, Try.typeInfo12, rfl⟩
instance : Zero Try.prog 12 [(Go.Value.int Go.IntKind.u64 0)] := ⟨_, Try.zeroValue12, rfl⟩
instance : Und Try.prog 22 (Go.TypeDesc.slice 3) := ⟨Try.runUnderlying22⟩
instance : IsAgg Try.prog 22 false := ⟨Try.isAgg22⟩
instance : TySize Try.prog 22 1 := ⟨Try.sizeOf22⟩
instance : TyBytes Try.prog 22 24 := ⟨_, Try.typeInfo22, rfl⟩
instance : Zero Try.prog 22 [(Go.Value.slice none 0 0)] := ⟨_, Try.zeroValue22, rfl⟩
instance : Und Try.prog 23 (Go.TypeDesc.slice 4) := ⟨Try.runUnderlying23⟩
instance : IsAgg Try.prog 23 false := ⟨Try.isAgg23⟩
instance : TySize Try.prog 23 1 := ⟨Try.sizeOf23⟩
instance : TyBytes Try.prog 23 24 := ⟨_, Try.typeInfo23, rfl⟩
instance : Zero Try.prog 23 [(Go.Value.slice none 0 0)] := ⟨_, Try.zeroValue23, rfl⟩
instance : Und Try.prog 25 (Go.TypeDesc.struct #[(Go.Field.mk "States" 3 0 Bool.false "" "" 0), (Go.Field.mk "Controls" 3 1 Bool.false "" "" 8), (Go.Field.mk "Shocks" 3 2 Bool.false "" "" 16), (Go.Field.mk "Next" 22 3 Bool.false "" "" 24), (Go.Field.mk "Good" 23 4 Bool.false "" "" 48)]) := ⟨Try.runUnderlying25⟩
instance : IsAgg Try.prog 25 true := ⟨Try.isAgg25⟩
instance : TySize Try.prog 25 5 := ⟨Try.sizeOf25⟩
instance : TyBytes Try.prog 25 72 := ⟨_, Try.typeInfo25, rfl⟩
instance : Zero Try.prog 25 [(Go.Value.int Go.IntKind.i64 0), (Go.Value.int Go.IntKind.i64 0), (Go.Value.int Go.IntKind.i64 0), (Go.Value.slice none 0 0), (Go.Value.slice none 0 0)] := ⟨_, Try.zeroValue25, rfl⟩
instance : Fld Try.prog 25 0 0 := Fld.of (n := 1) ⟨Try.runUnderlying25⟩ rfl ⟨Try.sizeOf3⟩ (by decide) rfl
instance : Fld Try.prog 25 1 1 := Fld.of (n := 1) ⟨Try.runUnderlying25⟩ rfl ⟨Try.sizeOf3⟩ (by decide) rfl
instance : Fld Try.prog 25 2 2 := Fld.of (n := 1) ⟨Try.runUnderlying25⟩ rfl ⟨Try.sizeOf3⟩ (by decide) rfl
instance : Fld Try.prog 25 3 3 := Fld.of (n := 1) ⟨Try.runUnderlying25⟩ rfl ⟨Try.sizeOf22⟩ (by decide) rfl
instance : Fld Try.prog 25 4 4 := Fld.of (n := 1) ⟨Try.runUnderlying25⟩ rfl ⟨Try.sizeOf23⟩ (by decide) rfl
instance : Places Try.prog 25 (fun i => ([(0, 1), (1, 1), (2, 1), (3, 1), (4, 1)] : List (Nat × Nat))[i]?) := Places.struct ⟨Try.runUnderlying25⟩ (.c Try.sizeOf3 (.c Try.sizeOf3 (.c Try.sizeOf3 (.c Try.sizeOf22 (.c Try.sizeOf23 .n)))))
instance : Und Try.prog 28 (Go.TypeDesc.struct #[(Go.Field.mk "States" 3 0 Bool.false "" "" 0), (Go.Field.mk "Controls" 3 1 Bool.false "" "" 8), (Go.Field.mk "Shocks" 3 2 Bool.false "" "" 16), (Go.Field.mk "Next" 22 3 Bool.false "" "" 24), (Go.Field.mk "Good" 23 4 Bool.false "" "" 48)]) := ⟨Try.runUnderlying28⟩
instance : IsAgg Try.prog 28 true := ⟨Try.isAgg28⟩
instance : TySize Try.prog 28 5 := ⟨Try.sizeOf28⟩
instance : TyBytes Try.prog 28 72 := ⟨_, Try.typeInfo28, rfl⟩
instance : Zero Try.prog 28 [(Go.Value.int Go.IntKind.i64 0), (Go.Value.int Go.IntKind.i64 0), (Go.Value.int Go.IntKind.i64 0), (Go.Value.slice none 0 0), (Go.Value.slice none 0 0)] := ⟨_, Try.zeroValue28, rfl⟩
instance : Fld Try.prog 28 0 0 := Fld.of (n := 1) ⟨Try.runUnderlying28⟩ rfl ⟨Try.sizeOf3⟩ (by decide) rfl
instance : Fld Try.prog 28 1 1 := Fld.of (n := 1) ⟨Try.runUnderlying28⟩ rfl ⟨Try.sizeOf3⟩ (by decide) rfl
instance : Fld Try.prog 28 2 2 := Fld.of (n := 1) ⟨Try.runUnderlying28⟩ rfl ⟨Try.sizeOf3⟩ (by decide) rfl
instance : Fld Try.prog 28 3 3 := Fld.of (n := 1) ⟨Try.runUnderlying28⟩ rfl ⟨Try.sizeOf22⟩ (by decide) rfl
instance : Fld Try.prog 28 4 4 := Fld.of (n := 1) ⟨Try.runUnderlying28⟩ rfl ⟨Try.sizeOf23⟩ (by decide) rfl
instance : Places Try.prog 28 (fun i => ([(0, 1), (1, 1), (2, 1), (3, 1), (4, 1)] : List (Nat × Nat))[i]?) := Places.struct ⟨Try.runUnderlying28⟩ (.c Try.sizeOf3 (.c Try.sizeOf3 (.c Try.sizeOf3 (.c Try.sizeOf22 (.c Try.sizeOf23 .n)))))
instance : Und Try.prog 31 (Go.TypeDesc.int Go.IntKind.i64) := ⟨Try.runUnderlying31⟩
instance : IsAgg Try.prog 31 false := ⟨Try.isAgg31⟩
instance : TySize Try.prog 31 1 := ⟨Try.sizeOf31⟩
instance : TyBytes Try.prog 31 8 := ⟨_, Try.typeInfo31, rfl⟩
instance : Zero Try.prog 31 [(Go.Value.int Go.IntKind.i64 0)] := ⟨_, Try.zeroValue31, rfl⟩
instance : Und Try.prog 41 (Go.TypeDesc.slice 5) := ⟨Try.runUnderlying41⟩
instance : IsAgg Try.prog 41 false := ⟨Try.isAgg41⟩
instance : TySize Try.prog 41 1 := ⟨Try.sizeOf41⟩
instance : TyBytes Try.prog 41 24 := ⟨_, Try.typeInfo41, rfl⟩
instance : Zero Try.prog 41 [(Go.Value.slice none 0 0)] := ⟨_, Try.zeroValue41, rfl⟩
instance : Und Try.prog 44 (Go.TypeDesc.struct #[(Go.Field.mk "In" 23 0 Bool.false "" "" 0), (Go.Field.mk "Control" 22 1 Bool.false "" "" 24), (Go.Field.mk "Rank" 22 2 Bool.false "" "" 48)]) := ⟨Try.runUnderlying44⟩
instance : IsAgg Try.prog 44 true := ⟨Try.isAgg44⟩
instance : TySize Try.prog 44 3 := ⟨Try.sizeOf44⟩
instance : TyBytes Try.prog 44 72 := ⟨_, Try.typeInfo44, rfl⟩
instance : Zero Try.prog 44 [(Go.Value.slice none 0 0), (Go.Value.slice none 0 0), (Go.Value.slice none 0 0)] := ⟨_, Try.zeroValue44, rfl⟩
instance : Fld Try.prog 44 0 0 := Fld.of (n := 1) ⟨Try.runUnderlying44⟩ rfl ⟨Try.sizeOf23⟩ (by decide) rfl
instance : Fld Try.prog 44 1 1 := Fld.of (n := 1) ⟨Try.runUnderlying44⟩ rfl ⟨Try.sizeOf22⟩ (by decide) rfl
instance : Fld Try.prog 44 2 2 := Fld.of (n := 1) ⟨Try.runUnderlying44⟩ rfl ⟨Try.sizeOf22⟩ (by decide) rfl
instance : Places Try.prog 44 (fun i => ([(0, 1), (1, 1), (2, 1)] : List (Nat × Nat))[i]?) := Places.struct ⟨Try.runUnderlying44⟩ (.c Try.sizeOf23 (.c Try.sizeOf22 (.c Try.sizeOf22 .n)))
instance : Und Try.prog 48 (Go.TypeDesc.int Go.IntKind.u16) := ⟨Try.runUnderlying48⟩
instance : IsAgg Try.prog 48 false := ⟨Try.isAgg48⟩
instance : TySize Try.prog 48 1 := ⟨Try.sizeOf48⟩
instance : TyBytes Try.prog 48 2 := ⟨_, Try.typeInfo48, rfl⟩
instance : Zero Try.prog 48 [(Go.Value.int Go.IntKind.u16 0)] := ⟨_, Try.zeroValue48, rfl⟩
instance : Und Try.prog 54 (Go.TypeDesc.struct #[(Go.Field.mk "l" 41 0 Bool.false "" "switchgear/switchgearlaw08" 0), (Go.Field.mk "i" 3 1 Bool.false "" "switchgear/switchgearlaw08" 24)]) := ⟨Try.runUnderlying54⟩
instance : IsAgg Try.prog 54 true := ⟨Try.isAgg54⟩
instance : TySize Try.prog 54 2 := ⟨Try.sizeOf54⟩
instance : TyBytes Try.prog 54 32 := ⟨_, Try.typeInfo54, rfl⟩
instance : Zero Try.prog 54 [(Go.Value.slice none 0 0), (Go.Value.int Go.IntKind.i64 0)] := ⟨_, Try.zeroValue54, rfl⟩
instance : Fld Try.prog 54 0 0 := Fld.of (n := 1) ⟨Try.runUnderlying54⟩ rfl ⟨Try.sizeOf41⟩ (by decide) rfl
instance : Fld Try.prog 54 1 1 := Fld.of (n := 1) ⟨Try.runUnderlying54⟩ rfl ⟨Try.sizeOf3⟩ (by decide) rfl
instance : Places Try.prog 54 (fun i => ([(0, 1), (1, 1)] : List (Nat × Nat))[i]?) := Places.struct ⟨Try.runUnderlying54⟩ (.c Try.sizeOf41 (.c Try.sizeOf3 .n))
instance : Und Try.prog 57 (Go.TypeDesc.func #[3] #[3] Bool.false) := ⟨Try.runUnderlying57⟩
instance : IsAgg Try.prog 57 false := ⟨Try.isAgg57⟩
instance : TySize Try.prog 57 1 := ⟨Try.sizeOf57⟩
instance : TyBytes Try.prog 57 8 := ⟨_, Try.typeInfo57, rfl⟩
instance : Zero Try.prog 57 [Go.Value.nilFunc] := ⟨_, Try.zeroValue57, rfl⟩
instance : Und Try.prog 58 (Go.TypeDesc.slice 44) := ⟨Try.runUnderlying58⟩
instance : IsAgg Try.prog 58 false := ⟨Try.isAgg58⟩
instance : TySize Try.prog 58 1 := ⟨Try.sizeOf58⟩
instance : TyBytes Try.prog 58 24 := ⟨_, Try.typeInfo58, rfl⟩
instance : Zero Try.prog 58 [(Go.Value.slice none 0 0)] := ⟨_, Try.zeroValue58, rfl⟩
instance : Und Try.prog 62 (Go.TypeDesc.int Go.IntKind.u64) := ⟨Try.runUnderlying62⟩
instance : IsAgg Try.prog 62 false := ⟨Try.isAgg62⟩
instance : TySize Try.prog 62 1 := ⟨Try.sizeOf62⟩
instance : TyBytes Try.prog 62 8 := ⟨_, Try.typeInfo62, rfl⟩
instance : Zero Try.prog 62 [(Go.Value.int Go.IntKind.u64 0)] := ⟨_, Try.zeroValue62, rfl⟩
instance : Und Try.prog 63 (Go.TypeDesc.pointer 3) := ⟨Try.runUnderlying63⟩
instance : IsAgg Try.prog 63 false := ⟨Try.isAgg63⟩
instance : TySize Try.prog 63 1 := ⟨Try.sizeOf63⟩
instance : TyBytes Try.prog 63 8 := ⟨_, Try.typeInfo63, rfl⟩
instance : Zero Try.prog 63 [(Go.Value.pointer none)] := ⟨_, Try.zeroValue63, rfl⟩
instance : Und Try.prog 64 (Go.TypeDesc.slice 63) := ⟨Try.runUnderlying64⟩
instance : IsAgg Try.prog 64 false := ⟨Try.isAgg64⟩
instance : TySize Try.prog 64 1 := ⟨Try.sizeOf64⟩
instance : TyBytes Try.prog 64 24 := ⟨_, Try.typeInfo64, rfl⟩
instance : Zero Try.prog 64 [(Go.Value.slice none 0 0)] := ⟨_, Try.zeroValue64, rfl⟩
instance : Und Try.prog 71 (Go.TypeDesc.slice 122) := ⟨Try.runUnderlying71⟩
instance : IsAgg Try.prog 71 false := ⟨Try.isAgg71⟩
instance : TySize Try.prog 71 1 := ⟨Try.sizeOf71⟩
instance : TyBytes Try.prog 71 24 := ⟨_, Try.typeInfo71, rfl⟩
instance : Zero Try.prog 71 [(Go.Value.slice none 0 0)] := ⟨_, Try.zeroValue71, rfl⟩
instance : Und Try.prog 72 (Go.TypeDesc.slice 116) := ⟨Try.runUnderlying72⟩
instance : IsAgg Try.prog 72 false := ⟨Try.isAgg72⟩
instance : TySize Try.prog 72 1 := ⟨Try.sizeOf72⟩
instance : TyBytes Try.prog 72 24 := ⟨_, Try.typeInfo72, rfl⟩
instance : Zero Try.prog 72 [(Go.Value.slice none 0 0)] := ⟨_, Try.zeroValue72, rfl⟩
instance : Und Try.prog 73 (Go.TypeDesc.slice 118) := ⟨Try.runUnderlying73⟩
instance : IsAgg Try.prog 73 false := ⟨Try.isAgg73⟩
instance : TySize Try.prog 73 1 := ⟨Try.sizeOf73⟩
instance : TyBytes Try.prog 73 24 := ⟨_, Try.typeInfo73, rfl⟩
instance : Zero Try.prog 73 [(Go.Value.slice none 0 0)] := ⟨_, Try.zeroValue73, rfl⟩
instance : Und Try.prog 74 (Go.TypeDesc.slice 120) := ⟨Try.runUnderlying74⟩
instance : IsAgg Try.prog 74 false := ⟨Try.isAgg74⟩
instance : TySize Try.prog 74 1 := ⟨Try.sizeOf74⟩
instance : TyBytes Try.prog 74 24 := ⟨_, Try.typeInfo74, rfl⟩
instance : Zero Try.prog 74 [(Go.Value.slice none 0 0)] := ⟨_, Try.zeroValue74, rfl⟩
instance : Und Try.prog 76 (Go.TypeDesc.struct #[(Go.Field.mk "Rooms" 71 0 Bool.false "" "" 0), (Go.Field.mk "Walls" 72 1 Bool.false "" "" 24), (Go.Field.mk "Branches" 73 2 Bool.false "" "" 48), (Go.Field.mk "Coolers" 74 3 Bool.false "" "" 72)]) := ⟨Try.runUnderlying76⟩
instance : IsAgg Try.prog 76 true := ⟨Try.isAgg76⟩
instance : TySize Try.prog 76 4 := ⟨Try.sizeOf76⟩
instance : TyBytes Try.prog 76 96 := ⟨_, Try.typeInfo76, rfl⟩
instance : Zero Try.prog 76 [(Go.Value.slice none 0 0), (Go.Value.slice none 0 0), (Go.Value.slice none 0 0), (Go.Value.slice none 0 0)] := ⟨_, Try.zeroValue76, rfl⟩
instance : Fld Try.prog 76 0 0 := Fld.of (n := 1) ⟨Try.runUnderlying76⟩ rfl ⟨Try.sizeOf71⟩ (by decide) rfl
instance : Fld Try.prog 76 1 1 := Fld.of (n := 1) ⟨Try.runUnderlying76⟩ rfl ⟨Try.sizeOf72⟩ (by decide) rfl
instance : Fld Try.prog 76 2 2 := Fld.of (n := 1) ⟨Try.runUnderlying76⟩ rfl ⟨Try.sizeOf73⟩ (by decide) rfl
instance : Fld Try.prog 76 3 3 := Fld.of (n := 1) ⟨Try.runUnderlying76⟩ rfl ⟨Try.sizeOf74⟩ (by decide) rfl
instance : Places Try.prog 76 (fun i => ([(0, 1), (1, 1), (2, 1), (3, 1)] : List (Nat × Nat))[i]?) := Places.struct ⟨Try.runUnderlying76⟩ (.c Try.sizeOf71 (.c Try.sizeOf72 (.c Try.sizeOf73 (.c Try.sizeOf74 .n))))
instance : Und Try.prog 80 (Go.TypeDesc.struct #[(Go.Field.mk "Load" 22 0 Bool.false "" "" 0), (Go.Field.mk "Out" 3 1 Bool.false "" "" 24), (Go.Field.mk "Pump" 3 2 Bool.false "" "" 32)]) := ⟨Try.runUnderlying80⟩
instance : IsAgg Try.prog 80 true := ⟨Try.isAgg80⟩
instance : TySize Try.prog 80 3 := ⟨Try.sizeOf80⟩
instance : TyBytes Try.prog 80 40 := ⟨_, Try.typeInfo80, rfl⟩
instance : Zero Try.prog 80 [(Go.Value.slice none 0 0), (Go.Value.int Go.IntKind.i64 0), (Go.Value.int Go.IntKind.i64 0)] := ⟨_, Try.zeroValue80, rfl⟩
instance : Fld Try.prog 80 0 0 := Fld.of (n := 1) ⟨Try.runUnderlying80⟩ rfl ⟨Try.sizeOf22⟩ (by decide) rfl
instance : Fld Try.prog 80 1 1 := Fld.of (n := 1) ⟨Try.runUnderlying80⟩ rfl ⟨Try.sizeOf3⟩ (by decide) rfl
instance : Fld Try.prog 80 2 2 := Fld.of (n := 1) ⟨Try.runUnderlying80⟩ rfl ⟨Try.sizeOf3⟩ (by decide) rfl
instance : Places Try.prog 80 (fun i => ([(0, 1), (1, 1), (2, 1)] : List (Nat × Nat))[i]?) := Places.struct ⟨Try.runUnderlying80⟩ (.c Try.sizeOf22 (.c Try.sizeOf3 (.c Try.sizeOf3 .n)))
instance : Und Try.prog 83 (Go.TypeDesc.struct #[(Go.Field.mk "Low" 80 0 Bool.false "" "" 0), (Go.Field.mk "High" 80 3 Bool.false "" "" 40)]) := ⟨Try.runUnderlying83⟩
instance : IsAgg Try.prog 83 true := ⟨Try.isAgg83⟩
instance : TySize Try.prog 83 6 := ⟨Try.sizeOf83⟩
instance : TyBytes Try.prog 83 80 := ⟨_, Try.typeInfo83, rfl⟩
instance : Zero Try.prog 83 [(Go.Value.slice none 0 0), (Go.Value.int Go.IntKind.i64 0), (Go.Value.int Go.IntKind.i64 0), (Go.Value.slice none 0 0), (Go.Value.int Go.IntKind.i64 0), (Go.Value.int Go.IntKind.i64 0)] := ⟨_, Try.zeroValue83, rfl⟩
instance : Fld Try.prog 83 0 0 := Fld.of (n := 3) ⟨Try.runUnderlying83⟩ rfl ⟨Try.sizeOf80⟩ (by decide) rfl
instance : Fld Try.prog 83 1 3 := Fld.of (n := 3) ⟨Try.runUnderlying83⟩ rfl ⟨Try.sizeOf80⟩ (by decide) rfl
instance : Places Try.prog 83 (fun i => ([(0, 3), (3, 3)] : List (Nat × Nat))[i]?) := Places.struct ⟨Try.runUnderlying83⟩ (.c Try.sizeOf80 (.c Try.sizeOf80 .n))
instance : Und Try.prog 90 (Go.TypeDesc.slice 25) := ⟨Try.runUnderlying90⟩
instance : IsAgg Try.prog 90 false := ⟨Try.isAgg90⟩
instance : TySize Try.prog 90 1 := ⟨Try.sizeOf90⟩
instance : TyBytes Try.prog 90 24 := ⟨_, Try.typeInfo90, rfl⟩
instance : Zero Try.prog 90 [(Go.Value.slice none 0 0)] := ⟨_, Try.zeroValue90, rfl⟩
instance : Und Try.prog 99 (Go.TypeDesc.func #[25, 3, 3] #[4] Bool.false) := ⟨Try.runUnderlying99⟩
instance : IsAgg Try.prog 99 false := ⟨Try.isAgg99⟩
instance : TySize Try.prog 99 1 := ⟨Try.sizeOf99⟩
instance : TyBytes Try.prog 99 8 := ⟨_, Try.typeInfo99, rfl⟩
instance : Zero Try.prog 99 [Go.Value.nilFunc] := ⟨_, Try.zeroValue99, rfl⟩
instance : Und Try.prog 101 (Go.TypeDesc.struct #[(Go.Field.mk "In" 23 0 Bool.false "" "" 0), (Go.Field.mk "Control" 22 1 Bool.false "" "" 24), (Go.Field.mk "Rank" 22 2 Bool.false "" "" 48)]) := ⟨Try.runUnderlying101⟩
instance : IsAgg Try.prog 101 true := ⟨Try.isAgg101⟩
instance : TySize Try.prog 101 3 := ⟨Try.sizeOf101⟩
instance : TyBytes Try.prog 101 72 := ⟨_, Try.typeInfo101, rfl⟩
instance : Zero Try.prog 101 [(Go.Value.slice none 0 0), (Go.Value.slice none 0 0), (Go.Value.slice none 0 0)] := ⟨_, Try.zeroValue101, rfl⟩
instance : Fld Try.prog 101 0 0 := Fld.of (n := 1) ⟨Try.runUnderlying101⟩ rfl ⟨Try.sizeOf23⟩ (by decide) rfl
instance : Fld Try.prog 101 1 1 := Fld.of (n := 1) ⟨Try.runUnderlying101⟩ rfl ⟨Try.sizeOf22⟩ (by decide) rfl
instance : Fld Try.prog 101 2 2 := Fld.of (n := 1) ⟨Try.runUnderlying101⟩ rfl ⟨Try.sizeOf22⟩ (by decide) rfl
instance : Places Try.prog 101 (fun i => ([(0, 1), (1, 1), (2, 1)] : List (Nat × Nat))[i]?) := Places.struct ⟨Try.runUnderlying101⟩ (.c Try.sizeOf23 (.c Try.sizeOf22 (.c Try.sizeOf22 .n)))
instance : Und Try.prog 114 (Go.TypeDesc.struct #[(Go.Field.mk "l" 41 0 Bool.false "" "switchgear/switchgearlaw07" 0), (Go.Field.mk "i" 3 1 Bool.false "" "switchgear/switchgearlaw07" 24)]) := ⟨Try.runUnderlying114⟩
instance : IsAgg Try.prog 114 true := ⟨Try.isAgg114⟩
instance : TySize Try.prog 114 2 := ⟨Try.sizeOf114⟩
instance : TyBytes Try.prog 114 32 := ⟨_, Try.typeInfo114, rfl⟩
instance : Zero Try.prog 114 [(Go.Value.slice none 0 0), (Go.Value.int Go.IntKind.i64 0)] := ⟨_, Try.zeroValue114, rfl⟩
instance : Fld Try.prog 114 0 0 := Fld.of (n := 1) ⟨Try.runUnderlying114⟩ rfl ⟨Try.sizeOf41⟩ (by decide) rfl
instance : Fld Try.prog 114 1 1 := Fld.of (n := 1) ⟨Try.runUnderlying114⟩ rfl ⟨Try.sizeOf3⟩ (by decide) rfl
instance : Places Try.prog 114 (fun i => ([(0, 1), (1, 1)] : List (Nat × Nat))[i]?) := Places.struct ⟨Try.runUnderlying114⟩ (.c Try.sizeOf41 (.c Try.sizeOf3 .n))
instance : Und Try.prog 116 (Go.TypeDesc.struct #[(Go.Field.mk "A" 3 0 Bool.false "" "" 0), (Go.Field.mk "B" 3 1 Bool.false "" "" 8), (Go.Field.mk "Pass" 3 2 Bool.false "" "" 16)]) := ⟨Try.runUnderlying116⟩
instance : IsAgg Try.prog 116 true := ⟨Try.isAgg116⟩
instance : TySize Try.prog 116 3 := ⟨Try.sizeOf116⟩
instance : TyBytes Try.prog 116 24 := ⟨_, Try.typeInfo116, rfl⟩
instance : Zero Try.prog 116 [(Go.Value.int Go.IntKind.i64 0), (Go.Value.int Go.IntKind.i64 0), (Go.Value.int Go.IntKind.i64 0)] := ⟨_, Try.zeroValue116, rfl⟩
instance : Fld Try.prog 116 0 0 := Fld.of (n := 1) ⟨Try.runUnderlying116⟩ rfl ⟨Try.sizeOf3⟩ (by decide) rfl
instance : Fld Try.prog 116 1 1 := Fld.of (n := 1) ⟨Try.runUnderlying116⟩ rfl ⟨Try.sizeOf3⟩ (by decide) rfl
instance : Fld Try.prog 116 2 2 := Fld.of (n := 1) ⟨Try.runUnderlying116⟩ rfl ⟨Try.sizeOf3⟩ (by decide) rfl
instance : Places Try.prog 116 (fun i => ([(0, 1), (1, 1), (2, 1)] : List (Nat × Nat))[i]?) := Places.struct ⟨Try.runUnderlying116⟩ (.c Try.sizeOf3 (.c Try.sizeOf3 (.c Try.sizeOf3 .n)))
instance : Und Try.prog 118 (Go.TypeDesc.struct #[(Go.Field.mk "Up" 3 0 Bool.false "" "" 0), (Go.Field.mk "Open" 3 1 Bool.false "" "" 8), (Go.Field.mk "Leak" 3 2 Bool.false "" "" 16)]) := ⟨Try.runUnderlying118⟩
instance : IsAgg Try.prog 118 true := ⟨Try.isAgg118⟩
instance : TySize Try.prog 118 3 := ⟨Try.sizeOf118⟩
instance : TyBytes Try.prog 118 24 := ⟨_, Try.typeInfo118, rfl⟩
instance : Zero Try.prog 118 [(Go.Value.int Go.IntKind.i64 0), (Go.Value.int Go.IntKind.i64 0), (Go.Value.int Go.IntKind.i64 0)] := ⟨_, Try.zeroValue118, rfl⟩
instance : Fld Try.prog 118 0 0 := Fld.of (n := 1) ⟨Try.runUnderlying118⟩ rfl ⟨Try.sizeOf3⟩ (by decide) rfl
instance : Fld Try.prog 118 1 1 := Fld.of (n := 1) ⟨Try.runUnderlying118⟩ rfl ⟨Try.sizeOf3⟩ (by decide) rfl
instance : Fld Try.prog 118 2 2 := Fld.of (n := 1) ⟨Try.runUnderlying118⟩ rfl ⟨Try.sizeOf3⟩ (by decide) rfl
instance : Places Try.prog 118 (fun i => ([(0, 1), (1, 1), (2, 1)] : List (Nat × Nat))[i]?) := Places.struct ⟨Try.runUnderlying118⟩ (.c Try.sizeOf3 (.c Try.sizeOf3 (.c Try.sizeOf3 .n)))
instance : Und Try.prog 120 (Go.TypeDesc.struct #[(Go.Field.mk "Room" 3 0 Bool.false "" "" 0), (Go.Field.mk "Branch" 3 1 Bool.false "" "" 8), (Go.Field.mk "Gain" 3 2 Bool.false "" "" 16), (Go.Field.mk "Carry" 3 3 Bool.false "" "" 24), (Go.Field.mk "Supply" 3 4 Bool.false "" "" 32)]) := ⟨Try.runUnderlying120⟩
instance : IsAgg Try.prog 120 true := ⟨Try.isAgg120⟩
instance : TySize Try.prog 120 5 := ⟨Try.sizeOf120⟩
instance : TyBytes Try.prog 120 40 := ⟨_, Try.typeInfo120, rfl⟩
instance : Zero Try.prog 120 [(Go.Value.int Go.IntKind.i64 0), (Go.Value.int Go.IntKind.i64 0), (Go.Value.int Go.IntKind.i64 0), (Go.Value.int Go.IntKind.i64 0), (Go.Value.int Go.IntKind.i64 0)] := ⟨_, Try.zeroValue120, rfl⟩
instance : Fld Try.prog 120 0 0 := Fld.of (n := 1) ⟨Try.runUnderlying120⟩ rfl ⟨Try.sizeOf3⟩ (by decide) rfl
instance : Fld Try.prog 120 1 1 := Fld.of (n := 1) ⟨Try.runUnderlying120⟩ rfl ⟨Try.sizeOf3⟩ (by decide) rfl
instance : Fld Try.prog 120 2 2 := Fld.of (n := 1) ⟨Try.runUnderlying120⟩ rfl ⟨Try.sizeOf3⟩ (by decide) rfl
instance : Fld Try.prog 120 3 3 := Fld.of (n := 1) ⟨Try.runUnderlying120⟩ rfl ⟨Try.sizeOf3⟩ (by decide) rfl
instance : Fld Try.prog 120 4 4 := Fld.of (n := 1) ⟨Try.runUnderlying120⟩ rfl ⟨Try.sizeOf3⟩ (by decide) rfl
instance : Places Try.prog 120 (fun i => ([(0, 1), (1, 1), (2, 1), (3, 1), (4, 1)] : List (Nat × Nat))[i]?) := Places.struct ⟨Try.runUnderlying120⟩ (.c Try.sizeOf3 (.c Try.sizeOf3 (.c Try.sizeOf3 (.c Try.sizeOf3 (.c Try.sizeOf3 .n)))))
instance : Und Try.prog 122 (Go.TypeDesc.struct #[(Go.Field.mk "Store" 3 0 Bool.false "" "" 0), (Go.Field.mk "Limit" 3 1 Bool.false "" "" 8)]) := ⟨Try.runUnderlying122⟩
instance : IsAgg Try.prog 122 true := ⟨Try.isAgg122⟩
instance : TySize Try.prog 122 2 := ⟨Try.sizeOf122⟩
instance : TyBytes Try.prog 122 16 := ⟨_, Try.typeInfo122, rfl⟩
instance : Zero Try.prog 122 [(Go.Value.int Go.IntKind.i64 0), (Go.Value.int Go.IntKind.i64 0)] := ⟨_, Try.zeroValue122, rfl⟩
instance : Fld Try.prog 122 0 0 := Fld.of (n := 1) ⟨Try.runUnderlying122⟩ rfl ⟨Try.sizeOf3⟩ (by decide) rfl
instance : Fld Try.prog 122 1 1 := Fld.of (n := 1) ⟨Try.runUnderlying122⟩ rfl ⟨Try.sizeOf3⟩ (by decide) rfl
instance : Places Try.prog 122 (fun i => ([(0, 1), (1, 1)] : List (Nat × Nat))[i]?) := Places.struct ⟨Try.runUnderlying122⟩ (.c Try.sizeOf3 (.c Try.sizeOf3 .n))
instance : Und Try.prog 123 (Go.TypeDesc.slice 22) := ⟨Try.runUnderlying123⟩
instance : IsAgg Try.prog 123 false := ⟨Try.isAgg123⟩
instance : TySize Try.prog 123 1 := ⟨Try.sizeOf123⟩
instance : TyBytes Try.prog 123 24 := ⟨_, Try.typeInfo123, rfl⟩
instance : Zero Try.prog 123 [(Go.Value.slice none 0 0)] := ⟨_, Try.zeroValue123, rfl⟩
instance : Und Try.prog 145 (Go.TypeDesc.func #[3] #[80] Bool.false) := ⟨Try.runUnderlying145⟩
instance : IsAgg Try.prog 145 false := ⟨Try.isAgg145⟩
instance : TySize Try.prog 145 1 := ⟨Try.sizeOf145⟩
instance : TyBytes Try.prog 145 8 := ⟨_, Try.typeInfo145, rfl⟩
instance : Zero Try.prog 145 [Go.Value.nilFunc] := ⟨_, Try.zeroValue145, rfl⟩
instance : Und Try.prog 154 (Go.TypeDesc.array 3 57) := ⟨Try.runUnderlying154⟩
instance : IsAgg Try.prog 154 true := ⟨Try.isAgg154⟩
instance : TySize Try.prog 154 3 := ⟨Try.sizeOf154⟩
instance : TyBytes Try.prog 154 24 := ⟨_, Try.typeInfo154, rfl⟩
instance : Zero Try.prog 154 [Go.Value.nilFunc, Go.Value.nilFunc, Go.Value.nilFunc] := ⟨_, Try.zeroValue154, rfl⟩
instance : Places Try.prog 154 (fun i => some (i * 1, 1)) := Places.array ⟨Try.runUnderlying154⟩ ⟨Try.sizeOf57⟩
instance : Und Try.prog 160 (Go.TypeDesc.slice 31) := ⟨Try.runUnderlying160⟩
instance : IsAgg Try.prog 160 false := ⟨Try.isAgg160⟩
instance : TySize Try.prog 160 1 := ⟨Try.sizeOf160⟩
instance : TyBytes Try.prog 160 24 := ⟨_, Try.typeInfo160, rfl⟩
instance : Zero Try.prog 160 [(Go.Value.slice none 0 0)] := ⟨_, Try.zeroValue160, rfl⟩
instance : Und Try.prog 162 (Go.TypeDesc.slice 80) := ⟨Try.runUnderlying162⟩
instance : IsAgg Try.prog 162 false := ⟨Try.isAgg162⟩
instance : TySize Try.prog 162 1 := ⟨Try.sizeOf162⟩
instance : TyBytes Try.prog 162 24 := ⟨_, Try.typeInfo162, rfl⟩
instance : Zero Try.prog 162 [(Go.Value.slice none 0 0)] := ⟨_, Try.zeroValue162, rfl⟩
instance : Und Try.prog 165 (Go.TypeDesc.struct #[(Go.Field.mk "Hall" 76 0 Bool.true "" "" 0), (Go.Field.mk "Case" 80 4 Bool.true "" "" 96), (Go.Field.mk "t" 22 7 Bool.false "" "switchgear/heat" 136), (Go.Field.mk "taken" 22 8 Bool.false "" "switchgear/heat" 160)]) := ⟨Try.runUnderlying165⟩
instance : IsAgg Try.prog 165 true := ⟨Try.isAgg165⟩
instance : TySize Try.prog 165 9 := ⟨Try.sizeOf165⟩
instance : TyBytes Try.prog 165 184 := ⟨_, Try.typeInfo165, rfl⟩
instance : Zero Try.prog 165 [(Go.Value.slice none 0 0), (Go.Value.slice none 0 0), (Go.Value.slice none 0 0), (Go.Value.slice none 0 0), (Go.Value.slice none 0 0), (Go.Value.int Go.IntKind.i64 0), (Go.Value.int Go.IntKind.i64 0), (Go.Value.slice none 0 0), (Go.Value.slice none 0 0)] := ⟨_, Try.zeroValue165, rfl⟩
instance : Fld Try.prog 165 0 0 := Fld.of (n := 4) ⟨Try.runUnderlying165⟩ rfl ⟨Try.sizeOf76⟩ (by decide) rfl
instance : Fld Try.prog 165 1 4 := Fld.of (n := 3) ⟨Try.runUnderlying165⟩ rfl ⟨Try.sizeOf80⟩ (by decide) rfl
instance : Fld Try.prog 165 2 7 := Fld.of (n := 1) ⟨Try.runUnderlying165⟩ rfl ⟨Try.sizeOf22⟩ (by decide) rfl
instance : Fld Try.prog 165 3 8 := Fld.of (n := 1) ⟨Try.runUnderlying165⟩ rfl ⟨Try.sizeOf22⟩ (by decide) rfl
instance : Places Try.prog 165 (fun i => ([(0, 4), (4, 3), (7, 1), (8, 1)] : List (Nat × Nat))[i]?) := Places.struct ⟨Try.runUnderlying165⟩ (.c Try.sizeOf76 (.c Try.sizeOf80 (.c Try.sizeOf22 (.c Try.sizeOf22 .n))))
instance : Und Try.prog 167 (Go.TypeDesc.int Go.IntKind.u32) := ⟨Try.runUnderlying167⟩
instance : IsAgg Try.prog 167 false := ⟨Try.isAgg167⟩
instance : TySize Try.prog 167 1 := ⟨Try.sizeOf167⟩
instance : TyBytes Try.prog 167 4 := ⟨_, Try.typeInfo167, rfl⟩
instance : Zero Try.prog 167 [(Go.Value.int Go.IntKind.u32 0)] := ⟨_, Try.zeroValue167, rfl⟩
instance : Und Try.prog 170 (Go.TypeDesc.int Go.IntKind.u64) := ⟨Try.runUnderlying170⟩
instance : IsAgg Try.prog 170 false := ⟨Try.isAgg170⟩
instance : TySize Try.prog 170 1 := ⟨Try.sizeOf170⟩
instance : TyBytes Try.prog 170 8 := ⟨_, Try.typeInfo170, rfl⟩
instance : Zero Try.prog 170 [(Go.Value.int Go.IntKind.u64 0)] := ⟨_, Try.zeroValue170, rfl⟩
instance : Und Try.prog 176 (Go.TypeDesc.func #[3, 3] #[] Bool.false) := ⟨Try.runUnderlying176⟩
instance : IsAgg Try.prog 176 false := ⟨Try.isAgg176⟩
instance : TySize Try.prog 176 1 := ⟨Try.sizeOf176⟩
instance : TyBytes Try.prog 176 8 := ⟨_, Try.typeInfo176, rfl⟩
instance : Zero Try.prog 176 [Go.Value.nilFunc] := ⟨_, Try.zeroValue176, rfl⟩
theorem _root_.Go.Proofs.Try.mixed : Try.prog.follows .mixedOrders = true := by kernel_rfl
end Go.X
