/- A part of the proof: a small program logic, plain laws and contracts of functions, each proved by a walk through its operations. No condition but those that stand in each theorem. -/
import Derived.Test.YtkoojoljdpbnoaaGreatA3
import Derived.KernelRfl
import Derived.Test.YtkoojoljdpbnoaaGreatProg
/- The type table of this seat as instances; written by program. No condition. -/
namespace Go.X
open Go.Proofs
set_option maxRecDepth 10000
instance : Und Tryz.prog 0 (Go.TypeDesc.tuple #[]) := ⟨Tryz.runUnderlying0⟩
instance : IsAgg Tryz.prog 0 false := ⟨Tryz.isAgg0⟩
instance : TySize Tryz.prog 0 1 := ⟨Tryz.sizeOf0⟩
instance : TyBytes Tryz.prog 0 0 := ⟨_, Tryz.typeInfo0, rfl⟩
instance : Zero Tryz.prog 0 [(Go.Value.tuple #[])] := ⟨_, Tryz.zeroValue0, rfl⟩
instance : Und Tryz.prog 1 (Go.TypeDesc.func #[] #[] Bool.false) := ⟨Tryz.runUnderlying1⟩
instance : IsAgg Tryz.prog 1 false := ⟨Tryz.isAgg1⟩
instance : TySize Tryz.prog 1 1 := ⟨Tryz.sizeOf1⟩
instance : TyBytes Tryz.prog 1 8 := ⟨_, Tryz.typeInfo1, rfl⟩
instance : Zero Tryz.prog 1 [Go.Value.nilFunc] := ⟨_, Tryz.zeroValue1, rfl⟩
instance : Und Tryz.prog 2 (Go.TypeDesc.int Go.IntKind.i64) := ⟨Tryz.runUnderlying2⟩
instance : IsAgg Tryz.prog 2 false := ⟨Tryz.isAgg2⟩
instance : TySize Tryz.prog 2 1 := ⟨Tryz.sizeOf2⟩
instance : TyBytes Tryz.prog 2 8 := ⟨_, Tryz.typeInfo2, rfl⟩
instance : Zero Tryz.prog 2 [(Go.Value.int Go.IntKind.i64 0)] := ⟨_, Tryz.zeroValue2, rfl⟩
instance : Und Tryz.prog 3 (Go.TypeDesc.int Go.IntKind.i64) := ⟨Tryz.runUnderlying3⟩
instance : IsAgg Tryz.prog 3 false := ⟨Tryz.isAgg3⟩
instance : TySize Tryz.prog 3 1 := ⟨Tryz.sizeOf3⟩
instance : TyBytes Tryz.prog 3 8 := ⟨_, Tryz.typeInfo3, rfl⟩
instance : Zero Tryz.prog 3 [(Go.Value.int Go.IntKind.i64 0)] := ⟨_, Tryz.zeroValue3, rfl⟩
instance : Und Tryz.prog 4 Go.TypeDesc.bool := ⟨Tryz.runUnderlying4⟩
instance : IsAgg Tryz.prog 4 false := ⟨Tryz.isAgg4⟩
instance : TySize Tryz.prog 4 1 := ⟨Tryz.sizeOf4⟩
instance : TyBytes Tryz.prog 4 1 := ⟨_, Tryz.typeInfo4, rfl⟩
instance : Zero Tryz.prog 4 [(Go.Value.bool Bool.false)] := ⟨_, Tryz.zeroValue4, rfl⟩
instance : Und Tryz.prog 5 (Go.TypeDesc.int Go.IntKind.u8) := ⟨Tryz.runUnderlying5⟩
instance : IsAgg Tryz.prog 5 false := ⟨Tryz.isAgg5⟩
instance : TySize Tryz.prog 5 1 := ⟨Tryz.sizeOf5⟩
instance : TyBytes Tryz.prog 5 1 := ⟨_, Tryz.typeInfo5, rfl⟩
instance : Zero Tryz.prog 5 [(Go.Value.int Go.IntKind.u8 0)] := ⟨_, Tryz.zeroValue5, rfl⟩
instance : Und Tryz.prog 9 Go.TypeDesc.string := ⟨Tryz.runUnderlying9⟩
instance : IsAgg Tryz.prog 9 false := ⟨Tryz.isAgg9⟩
instance : TySize Tryz.prog 9 1 := ⟨Tryz.sizeOf9⟩
instance : TyBytes Tryz.prog 9 16 := ⟨_, Tryz.typeInfo9, rfl⟩
instance : Zero Tryz.prog 9 [(Go.Value.string (ByteArray.mk #[]))] := ⟨_, Tryz.zeroValue9, rfl⟩
instance : Und Tryz.prog 22 (Go.TypeDesc.slice 5) := ⟨Tryz.runUnderlying22⟩
instance : IsAgg Tryz.prog 22 false := ⟨Tryz.isAgg22⟩
instance : TySize Tryz.prog 22 1 := ⟨Tryz.sizeOf22⟩
instance : TyBytes Tryz.prog 22 24 := ⟨_, Tryz.typeInfo22, rfl⟩
instance : Zero Tryz.prog 22 [(Go.Value.slice none 0 0)] := ⟨_, Tryz.zeroValue22, rfl⟩
instance : Und Tryz.prog 23 (Go.TypeDesc.slice 55) := ⟨Tryz.runUnderlying23⟩
instance : IsAgg Tryz.prog 23 false := ⟨Tryz.isAgg23⟩
instance : TySize Tryz.prog 23 1 := ⟨Tryz.sizeOf23⟩
instance : TyBytes Tryz.prog 23 24 := ⟨_, Tryz.typeInfo23, rfl⟩
instance : Zero Tryz.prog 23 [(Go.Value.slice none 0 0)] := ⟨_, Tryz.zeroValue23, rfl⟩
instance : Und Tryz.prog 24 (Go.TypeDesc.slice 164) := ⟨Tryz.runUnderlying24⟩
instance : IsAgg Tryz.prog 24 false := ⟨Tryz.isAgg24⟩
instance : TySize Tryz.prog 24 1 := ⟨Tryz.sizeOf24⟩
instance : TyBytes Tryz.prog 24 24 := ⟨_, Tryz.typeInfo24, rfl⟩
instance : Zero Tryz.prog 24 [(Go.Value.slice none 0 0)] := ⟨_, Tryz.zeroValue24, rfl⟩
instance : Und Tryz.prog 25 (Go.TypeDesc.slice 166) := ⟨Tryz.runUnderlying25⟩
instance : IsAgg Tryz.prog 25 false := ⟨Tryz.isAgg25⟩
instance : TySize Tryz.prog 25 1 := ⟨Tryz.sizeOf25⟩
instance : TyBytes Tryz.prog 25 24 := ⟨_, Tryz.typeInfo25, rfl⟩
instance : Zero Tryz.prog 25 [(Go.Value.slice none 0 0)] := ⟨_, Tryz.zeroValue25, rfl⟩
instance : Und Tryz.prog 26 (Go.TypeDesc.slice 168) := ⟨Tryz.runUnderlying26⟩
instance : IsAgg Tryz.prog 26 false := ⟨Tryz.isAgg26⟩
instance : TySize Tryz.prog 26 1 := ⟨Tryz.sizeOf26⟩
instance : TyBytes Tryz.prog 26 24 := ⟨_, Tryz.typeInfo26, rfl⟩
instance : Zero Tryz.prog 26 [(Go.Value.slice none 0 0)] := ⟨_, Tryz.zeroValue26, rfl⟩
instance : Und Tryz.prog 28 (Go.TypeDesc.struct #[(Go.Field.mk "Rooms" 23 0 Bool.false "" "" 0), (Go.Field.mk "Walls" 24 1 Bool.false "" "" 24), (Go.Field.mk "Branches" 25 2 Bool.false "" "" 48), (Go.Field.mk "Coolers" 26 3 Bool.false "" "" 72)]) := ⟨Tryz.runUnderlying28⟩
instance : IsAgg Tryz.prog 28 true := ⟨Tryz.isAgg28⟩
instance : TySize Tryz.prog 28 4 := ⟨Tryz.sizeOf28⟩
instance : TyBytes Tryz.prog 28 96 := ⟨_, Tryz.typeInfo28, rfl⟩
instance : Zero Tryz.prog 28 [(Go.Value.slice none 0 0), (Go.Value.slice none 0 0), (Go.Value.slice none 0 0), (Go.Value.slice none 0 0)] := ⟨_, Tryz.zeroValue28, rfl⟩
instance : Fld Tryz.prog 28 0 0 := Fld.of (n := 1) ⟨Tryz.runUnderlying28⟩ rfl ⟨Tryz.sizeOf23⟩ (by decide) rfl
instance : Fld Tryz.prog 28 1 1 := Fld.of (n := 1) ⟨Tryz.runUnderlying28⟩ rfl ⟨Tryz.sizeOf24⟩ (by decide) rfl
instance : Fld Tryz.prog 28 2 2 := Fld.of (n := 1) ⟨Tryz.runUnderlying28⟩ rfl ⟨Tryz.sizeOf25⟩ (by decide) rfl
instance : Fld Tryz.prog 28 3 3 := Fld.of (n := 1) ⟨Tryz.runUnderlying28⟩ rfl ⟨Tryz.sizeOf26⟩ (by decide) rfl
instance : Places Tryz.prog 28 (fun i => ([(0, 1), (1, 1), (2, 1), (3, 1)] : List (Nat × Nat))[i]?) := Places.struct ⟨Tryz.runUnderlying28⟩ (.c Tryz.sizeOf23 (.c Tryz.sizeOf24 (.c Tryz.sizeOf25 (.c Tryz.sizeOf26 .n))))
instance : Und Tryz.prog 29 (Go.TypeDesc.slice 3) := ⟨Tryz.runUnderlying29⟩
instance : IsAgg Tryz.prog 29 false := ⟨Tryz.isAgg29⟩
instance : TySize Tryz.prog 29 1 := ⟨Tryz.sizeOf29⟩
instance : TyBytes Tryz.prog 29 24 := ⟨_, Tryz.typeInfo29, rfl⟩
instance : Zero Tryz.prog 29 [(Go.Value.slice none 0 0)] := ⟨_, Tryz.zeroValue29, rfl⟩
instance : Und Tryz.prog 31 (Go.TypeDesc.struct #[(Go.Field.mk "Load" 29 0 Bool.false "" "" 0), (Go.Field.mk "Out" 3 1 Bool.false "" "" 24), (Go.Field.mk "Pump" 3 2 Bool.false "" "" 32)]) := ⟨Tryz.runUnderlying31⟩
instance : IsAgg Tryz.prog 31 true := ⟨Tryz.isAgg31⟩
instance : TySize Tryz.prog 31 3 := ⟨Tryz.sizeOf31⟩
instance : TyBytes Tryz.prog 31 40 := ⟨_, Tryz.typeInfo31, rfl⟩
instance : Zero Tryz.prog 31 [(Go.Value.slice none 0 0), (Go.Value.int Go.IntKind.i64 0), (Go.Value.int Go.IntKind.i64 0)] := ⟨_, Tryz.zeroValue31, rfl⟩
instance : Fld Tryz.prog 31 0 0 := Fld.of (n := 1) ⟨Tryz.runUnderlying31⟩ rfl ⟨Tryz.sizeOf29⟩ (by decide) rfl
instance : Fld Tryz.prog 31 1 1 := Fld.of (n := 1) ⟨Tryz.runUnderlying31⟩ rfl ⟨Tryz.sizeOf3⟩ (by decide) rfl
instance : Fld Tryz.prog 31 2 2 := Fld.of (n := 1) ⟨Tryz.runUnderlying31⟩ rfl ⟨Tryz.sizeOf3⟩ (by decide) rfl
instance : Places Tryz.prog 31 (fun i => ([(0, 1), (1, 1), (2, 1)] : List (Nat × Nat))[i]?) := Places.struct ⟨Tryz.runUnderlying31⟩ (.c Tryz.sizeOf29 (.c Tryz.sizeOf3 (.c Tryz.sizeOf3 .n)))
instance : Und Tryz.prog 33 (Go.TypeDesc.struct #[(Go.Field.mk "Low" 31 0 Bool.false "" "" 0), (Go.Field.mk "High" 31 3 Bool.false "" "" 40)]) := ⟨Tryz.runUnderlying33⟩
instance : IsAgg Tryz.prog 33 true := ⟨Tryz.isAgg33⟩
instance : TySize Tryz.prog 33 6 := ⟨Tryz.sizeOf33⟩
instance : TyBytes Tryz.prog 33 80 := ⟨_, Tryz.typeInfo33, rfl⟩
instance : Zero Tryz.prog 33 [(Go.Value.slice none 0 0), (Go.Value.int Go.IntKind.i64 0), (Go.Value.int Go.IntKind.i64 0), (Go.Value.slice none 0 0), (Go.Value.int Go.IntKind.i64 0), (Go.Value.int Go.IntKind.i64 0)] := ⟨_, Tryz.zeroValue33, rfl⟩
instance : Fld Tryz.prog 33 0 0 := Fld.of (n := 3) ⟨Tryz.runUnderlying33⟩ rfl ⟨Tryz.sizeOf31⟩ (by decide) rfl
instance : Fld Tryz.prog 33 1 3 := Fld.of (n := 3) ⟨Tryz.runUnderlying33⟩ rfl ⟨Tryz.sizeOf31⟩ (by decide) rfl
instance : Places Tryz.prog 33 (fun i => ([(0, 3), (3, 3)] : List (Nat × Nat))[i]?) := Places.struct ⟨Tryz.runUnderlying33⟩ (.c Tryz.sizeOf31 (.c Tryz.sizeOf31 .n))
instance : Und Tryz.prog 36 (Go.TypeDesc.pointer 38) := ⟨Tryz.runUnderlying36⟩
instance : IsAgg Tryz.prog 36 false := ⟨Tryz.isAgg36⟩
instance : TySize Tryz.prog 36 1 := ⟨Tryz.sizeOf36⟩
instance : TyBytes Tryz.prog 36 8 := ⟨_, Tryz.typeInfo36, rfl⟩
instance : Zero Tryz.prog 36 [(Go.Value.pointer none)] := ⟨_, Tryz.zeroValue36, rfl⟩
instance : Und Tryz.prog 38 (Go.TypeDesc.struct #[(Go.Field.mk "l" 22 0 Bool.false "" "switchgear/switchgeartop" 0), (Go.Field.mk "i" 3 1 Bool.false "" "switchgear/switchgeartop" 24)]) := ⟨Tryz.runUnderlying38⟩
instance : IsAgg Tryz.prog 38 true := ⟨Tryz.isAgg38⟩
instance : TySize Tryz.prog 38 2 := ⟨Tryz.sizeOf38⟩
instance : TyBytes Tryz.prog 38 32 := ⟨_, Tryz.typeInfo38, rfl⟩
instance : Zero Tryz.prog 38 [(Go.Value.slice none 0 0), (Go.Value.int Go.IntKind.i64 0)] := ⟨_, Tryz.zeroValue38, rfl⟩
instance : Fld Tryz.prog 38 0 0 := Fld.of (n := 1) ⟨Tryz.runUnderlying38⟩ rfl ⟨Tryz.sizeOf22⟩ (by decide) rfl
instance : Fld Tryz.prog 38 1 1 := Fld.of (n := 1) ⟨Tryz.runUnderlying38⟩ rfl ⟨Tryz.sizeOf3⟩ (by decide) rfl
instance : Places Tryz.prog 38 (fun i => ([(0, 1), (1, 1)] : List (Nat × Nat))[i]?) := Places.struct ⟨Tryz.runUnderlying38⟩ (.c Tryz.sizeOf22 (.c Tryz.sizeOf3 .n))
instance : Und Tryz.prog 39 (Go.TypeDesc.func #[3] #[3] Bool.false) := ⟨Tryz.runUnderlying39⟩
instance : IsAgg Tryz.prog 39 false := ⟨Tryz.isAgg39⟩
instance : TySize Tryz.prog 39 1 := ⟨Tryz.sizeOf39⟩
instance : TyBytes Tryz.prog 39 8 := ⟨_, Tryz.typeInfo39, rfl⟩
instance : Zero Tryz.prog 39 [Go.Value.nilFunc] := ⟨_, Tryz.zeroValue39, rfl⟩
instance : Und Tryz.prog 40 (Go.TypeDesc.slice 4) := ⟨Tryz.runUnderlying40⟩
instance : IsAgg Tryz.prog 40 false := ⟨Tryz.isAgg40⟩
instance : TySize Tryz.prog 40 1 := ⟨Tryz.sizeOf40⟩
instance : TyBytes Tryz.prog 40 24 := ⟨_, Tryz.typeInfo40, rfl⟩
instance : Zero Tryz.prog 40 [(Go.Value.slice none 0 0)] := ⟨_, Tryz.zeroValue40, rfl⟩
instance : Und Tryz.prog 42 (Go.TypeDesc.struct #[(Go.Field.mk "States" 3 0 Bool.false "" "" 0), (Go.Field.mk "Controls" 3 1 Bool.false "" "" 8), (Go.Field.mk "Shocks" 3 2 Bool.false "" "" 16), (Go.Field.mk "Next" 29 3 Bool.false "" "" 24), (Go.Field.mk "Good" 40 4 Bool.false "" "" 48)]) := ⟨Tryz.runUnderlying42⟩
instance : IsAgg Tryz.prog 42 true := ⟨Tryz.isAgg42⟩
instance : TySize Tryz.prog 42 5 := ⟨Tryz.sizeOf42⟩
instance : TyBytes Tryz.prog 42 72 := ⟨_, Tryz.typeInfo42, rfl⟩
instance : Zero Tryz.prog 42 [(Go.Value.int Go.IntKind.i64 0), (Go.Value.int Go.IntKind.i64 0), (Go.Value.int Go.IntKind.i64 0), (Go.Value.slice none 0 0), (Go.Value.slice none 0 0)] := ⟨_, Tryz.zeroValue42, rfl⟩
instance : Fld Tryz.prog 42 0 0 := Fld.of (n := 1) ⟨Tryz.runUnderlying42⟩ rfl ⟨Tryz.sizeOf3⟩ (by decide) rfl
instance : Fld Tryz.prog 42 1 1 := Fld.of (n := 1) ⟨Tryz.runUnderlying42⟩ rfl ⟨Tryz.sizeOf3⟩ (by decide) rfl
instance : Fld Tryz.prog 42 2 2 := Fld.of (n := 1) ⟨Tryz.runUnderlying42⟩ rfl ⟨Tryz.sizeOf3⟩ (by decide) rfl
instance : Fld Tryz.prog 42 3 3 := Fld.of (n := 1) ⟨Tryz.runUnderlying42⟩ rfl ⟨Tryz.sizeOf29⟩ (by decide) rfl
instance : Fld Tryz.prog 42 4 4 := Fld.of (n := 1) ⟨Tryz.runUnderlying42⟩ rfl ⟨Tryz.sizeOf40⟩ (by decide) rfl
instance : Places Tryz.prog 42 (fun i => ([(0, 1), (1, 1), (2, 1), (3, 1), (4, 1)] : List (Nat × Nat))[i]?) := Places.struct ⟨Tryz.runUnderlying42⟩ (.c Tryz.sizeOf3 (.c Tryz.sizeOf3 (.c Tryz.sizeOf3 (.c Tryz.sizeOf29 (.c Tryz.sizeOf40 .n)))))
instance : Und Tryz.prog 48 (Go.TypeDesc.struct #[(Go.Field.mk "In" 40 0 Bool.false "" "" 0), (Go.Field.mk "Control" 29 1 Bool.false "" "" 24), (Go.Field.mk "Rank" 29 2 Bool.false "" "" 48)]) := ⟨Tryz.runUnderlying48⟩
instance : IsAgg Tryz.prog 48 true := ⟨Tryz.isAgg48⟩
instance : TySize Tryz.prog 48 3 := ⟨Tryz.sizeOf48⟩
instance : TyBytes Tryz.prog 48 72 := ⟨_, Tryz.typeInfo48, rfl⟩
instance : Zero Tryz.prog 48 [(Go.Value.slice none 0 0), (Go.Value.slice none 0 0), (Go.Value.slice none 0 0)] := ⟨_, Tryz.zeroValue48, rfl⟩
instance : Fld Tryz.prog 48 0 0 := Fld.of (n := 1) ⟨Tryz.runUnderlying48⟩ rfl ⟨Tryz.sizeOf40⟩ (by decide) rfl
instance : Fld Tryz.prog 48 1 1 := Fld.of (n := 1) ⟨Tryz.runUnderlying48⟩ rfl ⟨Tryz.sizeOf29⟩ (by decide) rfl
instance : Fld Tryz.prog 48 2 2 := Fld.of (n := 1) ⟨Tryz.runUnderlying48⟩ rfl ⟨Tryz.sizeOf29⟩ (by decide) rfl
instance : Places Tryz.prog 48 (fun i => ([(0, 1), (1, 1), (2, 1)] : List (Nat × Nat))[i]?) := Places.struct ⟨Tryz.runUnderlying48⟩ (.c Tryz.sizeOf40 (.c Tryz.sizeOf29 (.c Tryz.sizeOf29 .n)))
instance : Und Tryz.prog 49 (Go.TypeDesc.int Go.IntKind.i64) := ⟨Tryz.runUnderlying49⟩
instance : IsAgg Tryz.prog 49 false := ⟨Tryz.isAgg49⟩
instance : TySize Tryz.prog 49 1 := ⟨Tryz.sizeOf49⟩
instance : TyBytes Tryz.prog 49 8 := ⟨_, Tryz.typeInfo49, rfl⟩
instance : Zero Tryz.prog 49 [(Go.Value.int Go.IntKind.i64 0)] := ⟨_, Tryz.zeroValue49, rfl⟩
instance : Und Tryz.prog 55 (Go.TypeDesc.struct #[(Go.Field.mk "Store" 3 0 Bool.false "" "" 0), (Go.Field.mk "Limit" 3 1 Bool.false "" "" 8)]) := ⟨Tryz.runUnderlying55⟩
instance : IsAgg Tryz.prog 55 true := ⟨Tryz.isAgg55⟩
instance : TySize Tryz.prog 55 2 := ⟨Tryz.sizeOf55⟩
instance : TyBytes Tryz.prog 55 16 := ⟨_, Tryz.typeInfo55, rfl⟩
instance : Zero Tryz.prog 55 [(Go.Value.int Go.IntKind.i64 0), (Go.Value.int Go.IntKind.i64 0)] := ⟨_, Tryz.zeroValue55, rfl⟩
instance : Fld Tryz.prog 55 0 0 := Fld.of (n := 1) ⟨Tryz.runUnderlying55⟩ rfl ⟨Tryz.sizeOf3⟩ (by decide) rfl
instance : Fld Tryz.prog 55 1 1 := Fld.of (n := 1) ⟨Tryz.runUnderlying55⟩ rfl ⟨Tryz.sizeOf3⟩ (by decide) rfl
instance : Places Tryz.prog 55 (fun i => ([(0, 1), (1, 1)] : List (Nat × Nat))[i]?) := Places.struct ⟨Tryz.runUnderlying55⟩ (.c Tryz.sizeOf3 (.c Tryz.sizeOf3 .n))
instance : Und Tryz.prog 66 (Go.TypeDesc.slice 29) := ⟨Tryz.runUnderlying66⟩
instance : IsAgg Tryz.prog 66 false := ⟨Tryz.isAgg66⟩
instance : TySize Tryz.prog 66 1 := ⟨Tryz.sizeOf66⟩
instance : TyBytes Tryz.prog 66 24 := ⟨_, Tryz.typeInfo66, rfl⟩
instance : Zero Tryz.prog 66 [(Go.Value.slice none 0 0)] := ⟨_, Tryz.zeroValue66, rfl⟩
instance : Und Tryz.prog 72 (Go.TypeDesc.slice 88) := ⟨Tryz.runUnderlying72⟩
instance : IsAgg Tryz.prog 72 false := ⟨Tryz.isAgg72⟩
instance : TySize Tryz.prog 72 1 := ⟨Tryz.sizeOf72⟩
instance : TyBytes Tryz.prog 72 24 := ⟨_, Tryz.typeInfo72, rfl⟩
instance : Zero Tryz.prog 72 [(Go.Value.slice none 0 0)] := ⟨_, Tryz.zeroValue72, rfl⟩
instance : Und Tryz.prog 73 (Go.TypeDesc.slice 85) := ⟨Tryz.runUnderlying73⟩
instance : IsAgg Tryz.prog 73 false := ⟨Tryz.isAgg73⟩
instance : TySize Tryz.prog 73 1 := ⟨Tryz.sizeOf73⟩
instance : TyBytes Tryz.prog 73 24 := ⟨_, Tryz.typeInfo73, rfl⟩
instance : Zero Tryz.prog 73 [(Go.Value.slice none 0 0)] := ⟨_, Tryz.zeroValue73, rfl⟩
instance : Und Tryz.prog 75 (Go.TypeDesc.struct #[(Go.Field.mk "N" 3 0 Bool.false "" "" 0), (Go.Field.mk "D" 3 1 Bool.false "" "" 8)]) := ⟨Tryz.runUnderlying75⟩
instance : IsAgg Tryz.prog 75 true := ⟨Tryz.isAgg75⟩
instance : TySize Tryz.prog 75 2 := ⟨Tryz.sizeOf75⟩
instance : TyBytes Tryz.prog 75 16 := ⟨_, Tryz.typeInfo75, rfl⟩
instance : Zero Tryz.prog 75 [(Go.Value.int Go.IntKind.i64 0), (Go.Value.int Go.IntKind.i64 0)] := ⟨_, Tryz.zeroValue75, rfl⟩
instance : Fld Tryz.prog 75 0 0 := Fld.of (n := 1) ⟨Tryz.runUnderlying75⟩ rfl ⟨Tryz.sizeOf3⟩ (by decide) rfl
instance : Fld Tryz.prog 75 1 1 := Fld.of (n := 1) ⟨Tryz.runUnderlying75⟩ rfl ⟨Tryz.sizeOf3⟩ (by decide) rfl
instance : Places Tryz.prog 75 (fun i => ([(0, 1), (1, 1)] : List (Nat × Nat))[i]?) := Places.struct ⟨Tryz.runUnderlying75⟩ (.c Tryz.sizeOf3 (.c Tryz.sizeOf3 .n))
instance : Und Tryz.prog 77 (Go.TypeDesc.struct #[(Go.Field.mk "Jobs" 72 0 Bool.false "" "" 0), (Go.Field.mk "Racks" 73 1 Bool.false "" "" 24), (Go.Field.mk "Most" 75 2 Bool.false "" "" 48)]) := ⟨Tryz.runUnderlying77⟩
instance : IsAgg Tryz.prog 77 true := ⟨Tryz.isAgg77⟩
instance : TySize Tryz.prog 77 4 := ⟨Tryz.sizeOf77⟩
instance : TyBytes Tryz.prog 77 64 := ⟨_, Tryz.typeInfo77, rfl⟩
instance : Zero Tryz.prog 77 [(Go.Value.slice none 0 0), (Go.Value.slice none 0 0), (Go.Value.int Go.IntKind.i64 0), (Go.Value.int Go.IntKind.i64 0)] := ⟨_, Tryz.zeroValue77, rfl⟩
instance : Fld Tryz.prog 77 0 0 := Fld.of (n := 1) ⟨Tryz.runUnderlying77⟩ rfl ⟨Tryz.sizeOf72⟩ (by decide) rfl
instance : Fld Tryz.prog 77 1 1 := Fld.of (n := 1) ⟨Tryz.runUnderlying77⟩ rfl ⟨Tryz.sizeOf73⟩ (by decide) rfl
instance : Fld Tryz.prog 77 2 2 := Fld.of (n := 2) ⟨Tryz.runUnderlying77⟩ rfl ⟨Tryz.sizeOf75⟩ (by decide) rfl
instance : Places Tryz.prog 77 (fun i => ([(0, 1), (1, 1), (2, 2)] : List (Nat × Nat))[i]?) := Places.struct ⟨Tryz.runUnderlying77⟩ (.c Tryz.sizeOf72 (.c Tryz.sizeOf73 (.c Tryz.sizeOf75 .n)))
instance : Und Tryz.prog 83 (Go.TypeDesc.array 3 3) := ⟨Tryz.runUnderlying83⟩
instance : IsAgg Tryz.prog 83 true := ⟨Tryz.isAgg83⟩
instance : TySize Tryz.prog 83 3 := ⟨Tryz.sizeOf83⟩
instance : TyBytes Tryz.prog 83 24 := ⟨_, Tryz.typeInfo83, rfl⟩
instance : Zero Tryz.prog 83 [(Go.Value.int Go.IntKind.i64 0), (Go.Value.int Go.IntKind.i64 0), (Go.Value.int Go.IntKind.i64 0)] := ⟨_, Tryz.zeroValue83, rfl⟩
instance : Places Tryz.prog 83 (fun i => some (i * 1, 1)) := Places.array ⟨Tryz.runUnderlying83⟩ ⟨Tryz.sizeOf3⟩
instance : Und Tryz.prog 85 (Go.TypeDesc.struct #[(Go.Field.mk "Room" 83 0 Bool.false "" "" 0), (Go.Field.mk "Cap" 3 3 Bool.false "" "" 24), (Go.Field.mk "Domain" 3 4 Bool.false "" "" 32)]) := ⟨Tryz.runUnderlying85⟩
instance : IsAgg Tryz.prog 85 true := ⟨Tryz.isAgg85⟩
instance : TySize Tryz.prog 85 5 := ⟨Tryz.sizeOf85⟩
instance : TyBytes Tryz.prog 85 40 := ⟨_, Tryz.typeInfo85, rfl⟩
instance : Zero Tryz.prog 85 [(Go.Value.int Go.IntKind.i64 0), (Go.Value.int Go.IntKind.i64 0), (Go.Value.int Go.IntKind.i64 0), (Go.Value.int Go.IntKind.i64 0), (Go.Value.int Go.IntKind.i64 0)] := ⟨_, Tryz.zeroValue85, rfl⟩
instance : Fld Tryz.prog 85 0 0 := Fld.of (n := 3) ⟨Tryz.runUnderlying85⟩ rfl ⟨Tryz.sizeOf83⟩ (by decide) rfl
instance : Fld Tryz.prog 85 1 3 := Fld.of (n := 1) ⟨Tryz.runUnderlying85⟩ rfl ⟨Tryz.sizeOf3⟩ (by decide) rfl
instance : Fld Tryz.prog 85 2 4 := Fld.of (n := 1) ⟨Tryz.runUnderlying85⟩ rfl ⟨Tryz.sizeOf3⟩ (by decide) rfl
instance : Places Tryz.prog 85 (fun i => ([(0, 3), (3, 1), (4, 1)] : List (Nat × Nat))[i]?) := Places.struct ⟨Tryz.runUnderlying85⟩ (.c Tryz.sizeOf83 (.c Tryz.sizeOf3 (.c Tryz.sizeOf3 .n)))
instance : Und Tryz.prog 86 (Go.TypeDesc.slice 90) := ⟨Tryz.runUnderlying86⟩
instance : IsAgg Tryz.prog 86 false := ⟨Tryz.isAgg86⟩
instance : TySize Tryz.prog 86 1 := ⟨Tryz.sizeOf86⟩
instance : TyBytes Tryz.prog 86 24 := ⟨_, Tryz.typeInfo86, rfl⟩
instance : Zero Tryz.prog 86 [(Go.Value.slice none 0 0)] := ⟨_, Tryz.zeroValue86, rfl⟩
instance : Und Tryz.prog 88 (Go.TypeDesc.struct #[(Go.Field.mk "Need" 83 0 Bool.false "" "" 0), (Go.Field.mk "Draws" 86 3 Bool.false "" "" 24), (Go.Field.mk "Group" 3 4 Bool.false "" "" 48), (Go.Field.mk "Worth" 3 5 Bool.false "" "" 56)]) := ⟨Tryz.runUnderlying88⟩
instance : IsAgg Tryz.prog 88 true := ⟨Tryz.isAgg88⟩
instance : TySize Tryz.prog 88 6 := ⟨Tryz.sizeOf88⟩
instance : TyBytes Tryz.prog 88 64 := ⟨_, Tryz.typeInfo88, rfl⟩
instance : Zero Tryz.prog 88 [(Go.Value.int Go.IntKind.i64 0), (Go.Value.int Go.IntKind.i64 0), (Go.Value.int Go.IntKind.i64 0), (Go.Value.slice none 0 0), (Go.Value.int Go.IntKind.i64 0), (Go.Value.int Go.IntKind.i64 0)] := ⟨_, Tryz.zeroValue88, rfl⟩
instance : Fld Tryz.prog 88 0 0 := Fld.of (n := 3) ⟨Tryz.runUnderlying88⟩ rfl ⟨Tryz.sizeOf83⟩ (by decide) rfl
instance : Fld Tryz.prog 88 1 3 := Fld.of (n := 1) ⟨Tryz.runUnderlying88⟩ rfl ⟨Tryz.sizeOf86⟩ (by decide) rfl
instance : Fld Tryz.prog 88 2 4 := Fld.of (n := 1) ⟨Tryz.runUnderlying88⟩ rfl ⟨Tryz.sizeOf3⟩ (by decide) rfl
instance : Fld Tryz.prog 88 3 5 := Fld.of (n := 1) ⟨Tryz.runUnderlying88⟩ rfl ⟨Tryz.sizeOf3⟩ (by decide) rfl
instance : Places Tryz.prog 88 (fun i => ([(0, 3), (3, 1), (4, 1), (5, 1)] : List (Nat × Nat))[i]?) := Places.struct ⟨Tryz.runUnderlying88⟩ (.c Tryz.sizeOf83 (.c Tryz.sizeOf86 (.c Tryz.sizeOf3 (.c Tryz.sizeOf3 .n))))
instance : Und Tryz.prog 90 (Go.TypeDesc.struct #[(Go.Field.mk "Power" 3 0 Bool.false "" "" 0), (Go.Field.mk "Count" 3 1 Bool.false "" "" 8)]) := ⟨Tryz.runUnderlying90⟩
instance : IsAgg Tryz.prog 90 true := ⟨Tryz.isAgg90⟩
instance : TySize Tryz.prog 90 2 := ⟨Tryz.sizeOf90⟩
instance : TyBytes Tryz.prog 90 16 := ⟨_, Tryz.typeInfo90, rfl⟩
instance : Zero Tryz.prog 90 [(Go.Value.int Go.IntKind.i64 0), (Go.Value.int Go.IntKind.i64 0)] := ⟨_, Tryz.zeroValue90, rfl⟩
instance : Fld Tryz.prog 90 0 0 := Fld.of (n := 1) ⟨Tryz.runUnderlying90⟩ rfl ⟨Tryz.sizeOf3⟩ (by decide) rfl
instance : Fld Tryz.prog 90 1 1 := Fld.of (n := 1) ⟨Tryz.runUnderlying90⟩ rfl ⟨Tryz.sizeOf3⟩ (by decide) rfl
instance : Places Tryz.prog 90 (fun i => ([(0, 1), (1, 1)] : List (Nat × Nat))[i]?) := Places.struct ⟨Tryz.runUnderlying90⟩ (.c Tryz.sizeOf3 (.c Tryz.sizeOf3 .n))
instance : Und Tryz.prog 93 (Go.TypeDesc.slice 174) := ⟨Tryz.runUnderlying93⟩
instance : IsAgg Tryz.prog 93 false := ⟨Tryz.isAgg93⟩
instance : TySize Tryz.prog 93 1 := ⟨Tryz.sizeOf93⟩
instance : TyBytes Tryz.prog 93 24 := ⟨_, Tryz.typeInfo93, rfl⟩
instance : Zero Tryz.prog 93 [(Go.Value.slice none 0 0)] := ⟨_, Tryz.zeroValue93, rfl⟩
instance : Und Tryz.prog 94 (Go.TypeDesc.slice 215) := ⟨Tryz.runUnderlying94⟩
instance : IsAgg Tryz.prog 94 false := ⟨Tryz.isAgg94⟩
instance : TySize Tryz.prog 94 1 := ⟨Tryz.sizeOf94⟩
instance : TyBytes Tryz.prog 94 24 := ⟨_, Tryz.typeInfo94, rfl⟩
instance : Zero Tryz.prog 94 [(Go.Value.slice none 0 0)] := ⟨_, Tryz.zeroValue94, rfl⟩
instance : Und Tryz.prog 96 (Go.TypeDesc.struct #[(Go.Field.mk "Batteries" 93 0 Bool.false "" "" 0), (Go.Field.mk "Generators" 94 1 Bool.false "" "" 24)]) := ⟨Tryz.runUnderlying96⟩
instance : IsAgg Tryz.prog 96 true := ⟨Tryz.isAgg96⟩
instance : TySize Tryz.prog 96 2 := ⟨Tryz.sizeOf96⟩
instance : TyBytes Tryz.prog 96 48 := ⟨_, Tryz.typeInfo96, rfl⟩
instance : Zero Tryz.prog 96 [(Go.Value.slice none 0 0), (Go.Value.slice none 0 0)] := ⟨_, Tryz.zeroValue96, rfl⟩
instance : Fld Tryz.prog 96 0 0 := Fld.of (n := 1) ⟨Tryz.runUnderlying96⟩ rfl ⟨Tryz.sizeOf93⟩ (by decide) rfl
instance : Fld Tryz.prog 96 1 1 := Fld.of (n := 1) ⟨Tryz.runUnderlying96⟩ rfl ⟨Tryz.sizeOf94⟩ (by decide) rfl
instance : Places Tryz.prog 96 (fun i => ([(0, 1), (1, 1)] : List (Nat × Nat))[i]?) := Places.struct ⟨Tryz.runUnderlying96⟩ (.c Tryz.sizeOf93 (.c Tryz.sizeOf94 .n))
instance : Und Tryz.prog 100 (Go.TypeDesc.struct #[(Go.Field.mk "Dark" 3 0 Bool.false "" "" 0), (Go.Field.mk "Energy" 29 1 Bool.false "" "" 8), (Go.Field.mk "Burnt" 29 2 Bool.false "" "" 32), (Go.Field.mk "Served" 3 3 Bool.false "" "" 56)]) := ⟨Tryz.runUnderlying100⟩
instance : IsAgg Tryz.prog 100 true := ⟨Tryz.isAgg100⟩
instance : TySize Tryz.prog 100 4 := ⟨Tryz.sizeOf100⟩
instance : TyBytes Tryz.prog 100 64 := ⟨_, Tryz.typeInfo100, rfl⟩
instance : Zero Tryz.prog 100 [(Go.Value.int Go.IntKind.i64 0), (Go.Value.slice none 0 0), (Go.Value.slice none 0 0), (Go.Value.int Go.IntKind.i64 0)] := ⟨_, Tryz.zeroValue100, rfl⟩
instance : Fld Tryz.prog 100 0 0 := Fld.of (n := 1) ⟨Tryz.runUnderlying100⟩ rfl ⟨Tryz.sizeOf3⟩ (by decide) rfl
instance : Fld Tryz.prog 100 1 1 := Fld.of (n := 1) ⟨Tryz.runUnderlying100⟩ rfl ⟨Tryz.sizeOf29⟩ (by decide) rfl
instance : Fld Tryz.prog 100 2 2 := Fld.of (n := 1) ⟨Tryz.runUnderlying100⟩ rfl ⟨Tryz.sizeOf29⟩ (by decide) rfl
instance : Fld Tryz.prog 100 3 3 := Fld.of (n := 1) ⟨Tryz.runUnderlying100⟩ rfl ⟨Tryz.sizeOf3⟩ (by decide) rfl
instance : Places Tryz.prog 100 (fun i => ([(0, 1), (1, 1), (2, 1), (3, 1)] : List (Nat × Nat))[i]?) := Places.struct ⟨Tryz.runUnderlying100⟩ (.c Tryz.sizeOf3 (.c Tryz.sizeOf29 (.c Tryz.sizeOf29 (.c Tryz.sizeOf3 .n))))
instance : Und Tryz.prog 104 (Go.TypeDesc.struct #[(Go.Field.mk "Seconds" 3 0 Bool.false "" "" 0), (Go.Field.mk "Power" 3 1 Bool.false "" "" 8)]) := ⟨Tryz.runUnderlying104⟩
instance : IsAgg Tryz.prog 104 true := ⟨Tryz.isAgg104⟩
instance : TySize Tryz.prog 104 2 := ⟨Tryz.sizeOf104⟩
instance : TyBytes Tryz.prog 104 16 := ⟨_, Tryz.typeInfo104, rfl⟩
instance : Zero Tryz.prog 104 [(Go.Value.int Go.IntKind.i64 0), (Go.Value.int Go.IntKind.i64 0)] := ⟨_, Tryz.zeroValue104, rfl⟩
instance : Fld Tryz.prog 104 0 0 := Fld.of (n := 1) ⟨Tryz.runUnderlying104⟩ rfl ⟨Tryz.sizeOf3⟩ (by decide) rfl
instance : Fld Tryz.prog 104 1 1 := Fld.of (n := 1) ⟨Tryz.runUnderlying104⟩ rfl ⟨Tryz.sizeOf3⟩ (by decide) rfl
instance : Places Tryz.prog 104 (fun i => ([(0, 1), (1, 1)] : List (Nat × Nat))[i]?) := Places.struct ⟨Tryz.runUnderlying104⟩ (.c Tryz.sizeOf3 (.c Tryz.sizeOf3 .n))
instance : Und Tryz.prog 105 (Go.TypeDesc.slice 104) := ⟨Tryz.runUnderlying105⟩
instance : IsAgg Tryz.prog 105 false := ⟨Tryz.isAgg105⟩
instance : TySize Tryz.prog 105 1 := ⟨Tryz.sizeOf105⟩
instance : TyBytes Tryz.prog 105 24 := ⟨_, Tryz.typeInfo105, rfl⟩
instance : Zero Tryz.prog 105 [(Go.Value.slice none 0 0)] := ⟨_, Tryz.zeroValue105, rfl⟩
instance : Und Tryz.prog 111 (Go.TypeDesc.slice 146) := ⟨Tryz.runUnderlying111⟩
instance : IsAgg Tryz.prog 111 false := ⟨Tryz.isAgg111⟩
instance : TySize Tryz.prog 111 1 := ⟨Tryz.sizeOf111⟩
instance : TyBytes Tryz.prog 111 24 := ⟨_, Tryz.typeInfo111, rfl⟩
instance : Zero Tryz.prog 111 [(Go.Value.slice none 0 0)] := ⟨_, Tryz.zeroValue111, rfl⟩
instance : Und Tryz.prog 113 (Go.TypeDesc.struct #[(Go.Field.mk "Energy" 3 0 Bool.false "" "" 0), (Go.Field.mk "Full" 3 1 Bool.false "" "" 8), (Go.Field.mk "Power" 3 2 Bool.false "" "" 16), (Go.Field.mk "End" 3 3 Bool.false "" "" 24)]) := ⟨Tryz.runUnderlying113⟩
instance : IsAgg Tryz.prog 113 true := ⟨Tryz.isAgg113⟩
instance : TySize Tryz.prog 113 4 := ⟨Tryz.sizeOf113⟩
instance : TyBytes Tryz.prog 113 32 := ⟨_, Tryz.typeInfo113, rfl⟩
instance : Zero Tryz.prog 113 [(Go.Value.int Go.IntKind.i64 0), (Go.Value.int Go.IntKind.i64 0), (Go.Value.int Go.IntKind.i64 0), (Go.Value.int Go.IntKind.i64 0)] := ⟨_, Tryz.zeroValue113, rfl⟩
instance : Fld Tryz.prog 113 0 0 := Fld.of (n := 1) ⟨Tryz.runUnderlying113⟩ rfl ⟨Tryz.sizeOf3⟩ (by decide) rfl
instance : Fld Tryz.prog 113 1 1 := Fld.of (n := 1) ⟨Tryz.runUnderlying113⟩ rfl ⟨Tryz.sizeOf3⟩ (by decide) rfl
instance : Fld Tryz.prog 113 2 2 := Fld.of (n := 1) ⟨Tryz.runUnderlying113⟩ rfl ⟨Tryz.sizeOf3⟩ (by decide) rfl
instance : Fld Tryz.prog 113 3 3 := Fld.of (n := 1) ⟨Tryz.runUnderlying113⟩ rfl ⟨Tryz.sizeOf3⟩ (by decide) rfl
instance : Places Tryz.prog 113 (fun i => ([(0, 1), (1, 1), (2, 1), (3, 1)] : List (Nat × Nat))[i]?) := Places.struct ⟨Tryz.runUnderlying113⟩ (.c Tryz.sizeOf3 (.c Tryz.sizeOf3 (.c Tryz.sizeOf3 (.c Tryz.sizeOf3 .n))))
instance : Und Tryz.prog 114 (Go.TypeDesc.slice 292) := ⟨Tryz.runUnderlying114⟩
instance : IsAgg Tryz.prog 114 false := ⟨Tryz.isAgg114⟩
instance : TySize Tryz.prog 114 1 := ⟨Tryz.sizeOf114⟩
instance : TyBytes Tryz.prog 114 24 := ⟨_, Tryz.typeInfo114, rfl⟩
instance : Zero Tryz.prog 114 [(Go.Value.slice none 0 0)] := ⟨_, Tryz.zeroValue114, rfl⟩
instance : Und Tryz.prog 116 (Go.TypeDesc.struct #[(Go.Field.mk "Hours" 111 0 Bool.false "" "" 0), (Go.Field.mk "Store" 113 1 Bool.false "" "" 24), (Go.Field.mk "Jobs" 114 5 Bool.false "" "" 56), (Go.Field.mk "Most" 3 6 Bool.false "" "" 80), (Go.Field.mk "Peak" 3 7 Bool.false "" "" 88)]) := ⟨Tryz.runUnderlying116⟩
instance : IsAgg Tryz.prog 116 true := ⟨Tryz.isAgg116⟩
instance : TySize Tryz.prog 116 8 := ⟨Tryz.sizeOf116⟩
instance : TyBytes Tryz.prog 116 96 := ⟨_, Tryz.typeInfo116, rfl⟩
instance : Zero Tryz.prog 116 [(Go.Value.slice none 0 0), (Go.Value.int Go.IntKind.i64 0), (Go.Value.int Go.IntKind.i64 0), (Go.Value.int Go.IntKind.i64 0), (Go.Value.int Go.IntKind.i64 0), (Go.Value.slice none 0 0), (Go.Value.int Go.IntKind.i64 0), (Go.Value.int Go.IntKind.i64 0)] := ⟨_, Tryz.zeroValue116, rfl⟩
instance : Fld Tryz.prog 116 0 0 := Fld.of (n := 1) ⟨Tryz.runUnderlying116⟩ rfl ⟨Tryz.sizeOf111⟩ (by decide) rfl
instance : Fld Tryz.prog 116 1 1 := Fld.of (n := 4) ⟨Tryz.runUnderlying116⟩ rfl ⟨Tryz.sizeOf113⟩ (by decide) rfl
instance : Fld Tryz.prog 116 2 5 := Fld.of (n := 1) ⟨Tryz.runUnderlying116⟩ rfl ⟨Tryz.sizeOf114⟩ (by decide) rfl
instance : Fld Tryz.prog 116 3 6 := Fld.of (n := 1) ⟨Tryz.runUnderlying116⟩ rfl ⟨Tryz.sizeOf3⟩ (by decide) rfl
instance : Fld Tryz.prog 116 4 7 := Fld.of (n := 1) ⟨Tryz.runUnderlying116⟩ rfl ⟨Tryz.sizeOf3⟩ (by decide) rfl
instance : Places Tryz.prog 116 (fun i => ([(0, 1), (1, 4), (5, 1), (6, 1), (7, 1)] : List (Nat × Nat))[i]?) := Places.struct ⟨Tryz.runUnderlying116⟩ (.c Tryz.sizeOf111 (.c Tryz.sizeOf113 (.c Tryz.sizeOf114 (.c Tryz.sizeOf3 (.c Tryz.sizeOf3 .n)))))
instance : Und Tryz.prog 118 (Go.TypeDesc.struct #[(Go.Field.mk "Starts" 29 0 Bool.false "" "" 0), (Go.Field.mk "Charge" 29 1 Bool.false "" "" 24), (Go.Field.mk "Cost" 3 2 Bool.false "" "" 48)]) := ⟨Tryz.runUnderlying118⟩
instance : IsAgg Tryz.prog 118 true := ⟨Tryz.isAgg118⟩
instance : TySize Tryz.prog 118 3 := ⟨Tryz.sizeOf118⟩
instance : TyBytes Tryz.prog 118 56 := ⟨_, Tryz.typeInfo118, rfl⟩
instance : Zero Tryz.prog 118 [(Go.Value.slice none 0 0), (Go.Value.slice none 0 0), (Go.Value.int Go.IntKind.i64 0)] := ⟨_, Tryz.zeroValue118, rfl⟩
instance : Fld Tryz.prog 118 0 0 := Fld.of (n := 1) ⟨Tryz.runUnderlying118⟩ rfl ⟨Tryz.sizeOf29⟩ (by decide) rfl
instance : Fld Tryz.prog 118 1 1 := Fld.of (n := 1) ⟨Tryz.runUnderlying118⟩ rfl ⟨Tryz.sizeOf29⟩ (by decide) rfl
instance : Fld Tryz.prog 118 2 2 := Fld.of (n := 1) ⟨Tryz.runUnderlying118⟩ rfl ⟨Tryz.sizeOf3⟩ (by decide) rfl
instance : Places Tryz.prog 118 (fun i => ([(0, 1), (1, 1), (2, 1)] : List (Nat × Nat))[i]?) := Places.struct ⟨Tryz.runUnderlying118⟩ (.c Tryz.sizeOf29 (.c Tryz.sizeOf29 (.c Tryz.sizeOf3 .n)))
instance : Und Tryz.prog 127 (Go.TypeDesc.struct #[(Go.Field.mk "Up" 3 0 Bool.false "" "" 0), (Go.Field.mk "Low" 3 1 Bool.false "" "" 8), (Go.Field.mk "High" 3 2 Bool.false "" "" 16)]) := ⟨Tryz.runUnderlying127⟩
instance : IsAgg Tryz.prog 127 true := ⟨Tryz.isAgg127⟩
instance : TySize Tryz.prog 127 3 := ⟨Tryz.sizeOf127⟩
instance : TyBytes Tryz.prog 127 24 := ⟨_, Tryz.typeInfo127, rfl⟩
instance : Zero Tryz.prog 127 [(Go.Value.int Go.IntKind.i64 0), (Go.Value.int Go.IntKind.i64 0), (Go.Value.int Go.IntKind.i64 0)] := ⟨_, Tryz.zeroValue127, rfl⟩
instance : Fld Tryz.prog 127 0 0 := Fld.of (n := 1) ⟨Tryz.runUnderlying127⟩ rfl ⟨Tryz.sizeOf3⟩ (by decide) rfl
instance : Fld Tryz.prog 127 1 1 := Fld.of (n := 1) ⟨Tryz.runUnderlying127⟩ rfl ⟨Tryz.sizeOf3⟩ (by decide) rfl
instance : Fld Tryz.prog 127 2 2 := Fld.of (n := 1) ⟨Tryz.runUnderlying127⟩ rfl ⟨Tryz.sizeOf3⟩ (by decide) rfl
instance : Places Tryz.prog 127 (fun i => ([(0, 1), (1, 1), (2, 1)] : List (Nat × Nat))[i]?) := Places.struct ⟨Tryz.runUnderlying127⟩ (.c Tryz.sizeOf3 (.c Tryz.sizeOf3 (.c Tryz.sizeOf3 .n)))
instance : Und Tryz.prog 128 (Go.TypeDesc.slice 127) := ⟨Tryz.runUnderlying128⟩
instance : IsAgg Tryz.prog 128 false := ⟨Tryz.isAgg128⟩
instance : TySize Tryz.prog 128 1 := ⟨Tryz.sizeOf128⟩
instance : TyBytes Tryz.prog 128 24 := ⟨_, Tryz.typeInfo128, rfl⟩
instance : Zero Tryz.prog 128 [(Go.Value.slice none 0 0)] := ⟨_, Tryz.zeroValue128, rfl⟩
instance : Und Tryz.prog 130 (Go.TypeDesc.struct #[(Go.Field.mk "Nodes" 128 0 Bool.false "" "" 0), (Go.Field.mk "Values" 29 1 Bool.false "" "" 24)]) := ⟨Tryz.runUnderlying130⟩
instance : IsAgg Tryz.prog 130 true := ⟨Tryz.isAgg130⟩
instance : TySize Tryz.prog 130 2 := ⟨Tryz.sizeOf130⟩
instance : TyBytes Tryz.prog 130 48 := ⟨_, Tryz.typeInfo130, rfl⟩
instance : Zero Tryz.prog 130 [(Go.Value.slice none 0 0), (Go.Value.slice none 0 0)] := ⟨_, Tryz.zeroValue130, rfl⟩
instance : Fld Tryz.prog 130 0 0 := Fld.of (n := 1) ⟨Tryz.runUnderlying130⟩ rfl ⟨Tryz.sizeOf128⟩ (by decide) rfl
instance : Fld Tryz.prog 130 1 1 := Fld.of (n := 1) ⟨Tryz.runUnderlying130⟩ rfl ⟨Tryz.sizeOf29⟩ (by decide) rfl
instance : Places Tryz.prog 130 (fun i => ([(0, 1), (1, 1)] : List (Nat × Nat))[i]?) := Places.struct ⟨Tryz.runUnderlying130⟩ (.c Tryz.sizeOf128 (.c Tryz.sizeOf29 .n))
instance : Und Tryz.prog 138 (Go.TypeDesc.int Go.IntKind.u64) := ⟨Tryz.runUnderlying138⟩
instance : IsAgg Tryz.prog 138 false := ⟨Tryz.isAgg138⟩
instance : TySize Tryz.prog 138 1 := ⟨Tryz.sizeOf138⟩
instance : TyBytes Tryz.prog 138 8 := ⟨_, Tryz.typeInfo138, rfl⟩
instance : Zero Tryz.prog 138 [(Go.Value.int Go.IntKind.u64 0)] := ⟨_, Tryz.zeroValue138, rfl⟩
instance : Und Tryz.prog 146 (Go.TypeDesc.struct #[(Go.Field.mk "Buy" 3 0 Bool.false "" "" 0), (Go.Field.mk "Sell" 3 1 Bool.false "" "" 8), (Go.Field.mk "Sun" 3 2 Bool.false "" "" 16), (Go.Field.mk "Load" 3 3 Bool.false "" "" 24), (Go.Field.mk "Carbon" 3 4 Bool.false "" "" 32), (Go.Field.mk "Water" 3 5 Bool.false "" "" 40)]) := ⟨Tryz.runUnderlying146⟩
instance : IsAgg Tryz.prog 146 true := ⟨Tryz.isAgg146⟩
instance : TySize Tryz.prog 146 6 := ⟨Tryz.sizeOf146⟩
instance : TyBytes Tryz.prog 146 48 := ⟨_, Tryz.typeInfo146, rfl⟩
instance : Zero Tryz.prog 146 [(Go.Value.int Go.IntKind.i64 0), (Go.Value.int Go.IntKind.i64 0), (Go.Value.int Go.IntKind.i64 0), (Go.Value.int Go.IntKind.i64 0), (Go.Value.int Go.IntKind.i64 0), (Go.Value.int Go.IntKind.i64 0)] := ⟨_, Tryz.zeroValue146, rfl⟩
instance : Fld Tryz.prog 146 0 0 := Fld.of (n := 1) ⟨Tryz.runUnderlying146⟩ rfl ⟨Tryz.sizeOf3⟩ (by decide) rfl
instance : Fld Tryz.prog 146 1 1 := Fld.of (n := 1) ⟨Tryz.runUnderlying146⟩ rfl ⟨Tryz.sizeOf3⟩ (by decide) rfl
instance : Fld Tryz.prog 146 2 2 := Fld.of (n := 1) ⟨Tryz.runUnderlying146⟩ rfl ⟨Tryz.sizeOf3⟩ (by decide) rfl
instance : Fld Tryz.prog 146 3 3 := Fld.of (n := 1) ⟨Tryz.runUnderlying146⟩ rfl ⟨Tryz.sizeOf3⟩ (by decide) rfl
instance : Fld Tryz.prog 146 4 4 := Fld.of (n := 1) ⟨Tryz.runUnderlying146⟩ rfl ⟨Tryz.sizeOf3⟩ (by decide) rfl
instance : Fld Tryz.prog 146 5 5 := Fld.of (n := 1) ⟨Tryz.runUnderlying146⟩ rfl ⟨Tryz.sizeOf3⟩ (by decide) rfl
instance : Places Tryz.prog 146 (fun i => ([(0, 1), (1, 1), (2, 1), (3, 1), (4, 1), (5, 1)] : List (Nat × Nat))[i]?) := Places.struct ⟨Tryz.runUnderlying146⟩ (.c Tryz.sizeOf3 (.c Tryz.sizeOf3 (.c Tryz.sizeOf3 (.c Tryz.sizeOf3 (.c Tryz.sizeOf3 (.c Tryz.sizeOf3 .n))))))
instance : Und Tryz.prog 164 (Go.TypeDesc.struct #[(Go.Field.mk "A" 3 0 Bool.false "" "" 0), (Go.Field.mk "B" 3 1 Bool.false "" "" 8), (Go.Field.mk "Pass" 3 2 Bool.false "" "" 16)]) := ⟨Tryz.runUnderlying164⟩
instance : IsAgg Tryz.prog 164 true := ⟨Tryz.isAgg164⟩
instance : TySize Tryz.prog 164 3 := ⟨Tryz.sizeOf164⟩
instance : TyBytes Tryz.prog 164 24 := ⟨_, Tryz.typeInfo164, rfl⟩
instance : Zero Tryz.prog 164 [(Go.Value.int Go.IntKind.i64 0), (Go.Value.int Go.IntKind.i64 0), (Go.Value.int Go.IntKind.i64 0)] := ⟨_, Tryz.zeroValue164, rfl⟩
instance : Fld Tryz.prog 164 0 0 := Fld.of (n := 1) ⟨Tryz.runUnderlying164⟩ rfl ⟨Tryz.sizeOf3⟩ (by decide) rfl
instance : Fld Tryz.prog 164 1 1 := Fld.of (n := 1) ⟨Tryz.runUnderlying164⟩ rfl ⟨Tryz.sizeOf3⟩ (by decide) rfl
instance : Fld Tryz.prog 164 2 2 := Fld.of (n := 1) ⟨Tryz.runUnderlying164⟩ rfl ⟨Tryz.sizeOf3⟩ (by decide) rfl
instance : Places Tryz.prog 164 (fun i => ([(0, 1), (1, 1), (2, 1)] : List (Nat × Nat))[i]?) := Places.struct ⟨Tryz.runUnderlying164⟩ (.c Tryz.sizeOf3 (.c Tryz.sizeOf3 (.c Tryz.sizeOf3 .n)))
instance : Und Tryz.prog 166 (Go.TypeDesc.struct #[(Go.Field.mk "Up" 3 0 Bool.false "" "" 0), (Go.Field.mk "Open" 3 1 Bool.false "" "" 8), (Go.Field.mk "Leak" 3 2 Bool.false "" "" 16)]) := ⟨Tryz.runUnderlying166⟩
instance : IsAgg Tryz.prog 166 true := ⟨Tryz.isAgg166⟩
instance : TySize Tryz.prog 166 3 := ⟨Tryz.sizeOf166⟩
instance : TyBytes Tryz.prog 166 24 := ⟨_, Tryz.typeInfo166, rfl⟩
instance : Zero Tryz.prog 166 [(Go.Value.int Go.IntKind.i64 0), (Go.Value.int Go.IntKind.i64 0), (Go.Value.int Go.IntKind.i64 0)] := ⟨_, Tryz.zeroValue166, rfl⟩
instance : Fld Tryz.prog 166 0 0 := Fld.of (n := 1) ⟨Tryz.runUnderlying166⟩ rfl ⟨Tryz.sizeOf3⟩ (by decide) rfl
instance : Fld Tryz.prog 166 1 1 := Fld.of (n := 1) ⟨Tryz.runUnderlying166⟩ rfl ⟨Tryz.sizeOf3⟩ (by decide) rfl
instance : Fld Tryz.prog 166 2 2 := Fld.of (n := 1) ⟨Tryz.runUnderlying166⟩ rfl ⟨Tryz.sizeOf3⟩ (by decide) rfl
instance : Places Tryz.prog 166 (fun i => ([(0, 1), (1, 1), (2, 1)] : List (Nat × Nat))[i]?) := Places.struct ⟨Tryz.runUnderlying166⟩ (.c Tryz.sizeOf3 (.c Tryz.sizeOf3 (.c Tryz.sizeOf3 .n)))
instance : Und Tryz.prog 168 (Go.TypeDesc.struct #[(Go.Field.mk "Room" 3 0 Bool.false "" "" 0), (Go.Field.mk "Branch" 3 1 Bool.false "" "" 8), (Go.Field.mk "Gain" 3 2 Bool.false "" "" 16), (Go.Field.mk "Carry" 3 3 Bool.false "" "" 24), (Go.Field.mk "Supply" 3 4 Bool.false "" "" 32)]) := ⟨Tryz.runUnderlying168⟩
instance : IsAgg Tryz.prog 168 true := ⟨Tryz.isAgg168⟩
instance : TySize Tryz.prog 168 5 := ⟨Tryz.sizeOf168⟩
instance : TyBytes Tryz.prog 168 40 := ⟨_, Tryz.typeInfo168, rfl⟩
instance : Zero Tryz.prog 168 [(Go.Value.int Go.IntKind.i64 0), (Go.Value.int Go.IntKind.i64 0), (Go.Value.int Go.IntKind.i64 0), (Go.Value.int Go.IntKind.i64 0), (Go.Value.int Go.IntKind.i64 0)] := ⟨_, Tryz.zeroValue168, rfl⟩
instance : Fld Tryz.prog 168 0 0 := Fld.of (n := 1) ⟨Tryz.runUnderlying168⟩ rfl ⟨Tryz.sizeOf3⟩ (by decide) rfl
instance : Fld Tryz.prog 168 1 1 := Fld.of (n := 1) ⟨Tryz.runUnderlying168⟩ rfl ⟨Tryz.sizeOf3⟩ (by decide) rfl
instance : Fld Tryz.prog 168 2 2 := Fld.of (n := 1) ⟨Tryz.runUnderlying168⟩ rfl ⟨Tryz.sizeOf3⟩ (by decide) rfl
instance : Fld Tryz.prog 168 3 3 := Fld.of (n := 1) ⟨Tryz.runUnderlying168⟩ rfl ⟨Tryz.sizeOf3⟩ (by decide) rfl
instance : Fld Tryz.prog 168 4 4 := Fld.of (n := 1) ⟨Tryz.runUnderlying168⟩ rfl ⟨Tryz.sizeOf3⟩ (by decide) rfl
instance : Places Tryz.prog 168 (fun i => ([(0, 1), (1, 1), (2, 1), (3, 1), (4, 1)] : List (Nat × Nat))[i]?) := Places.struct ⟨Tryz.runUnderlying168⟩ (.c Tryz.sizeOf3 (.c Tryz.sizeOf3 (.c Tryz.sizeOf3 (.c Tryz.sizeOf3 (.c Tryz.sizeOf3 .n)))))
instance : Und Tryz.prog 171 (Go.TypeDesc.func #[42, 3, 3] #[4] Bool.false) := ⟨Tryz.runUnderlying171⟩
instance : IsAgg Tryz.prog 171 false := ⟨Tryz.isAgg171⟩
instance : TySize Tryz.prog 171 1 := ⟨Tryz.sizeOf171⟩
instance : TyBytes Tryz.prog 171 8 := ⟨_, Tryz.typeInfo171, rfl⟩
instance : Zero Tryz.prog 171 [Go.Value.nilFunc] := ⟨_, Tryz.zeroValue171, rfl⟩
instance : Und Tryz.prog 174 (Go.TypeDesc.struct #[(Go.Field.mk "Energy" 3 0 Bool.false "" "" 0), (Go.Field.mk "Full" 3 1 Bool.false "" "" 8), (Go.Field.mk "Power" 3 2 Bool.false "" "" 16), (Go.Field.mk "Charge" 3 3 Bool.false "" "" 24)]) := ⟨Tryz.runUnderlying174⟩
instance : IsAgg Tryz.prog 174 true := ⟨Tryz.isAgg174⟩
instance : TySize Tryz.prog 174 4 := ⟨Tryz.sizeOf174⟩
instance : TyBytes Tryz.prog 174 32 := ⟨_, Tryz.typeInfo174, rfl⟩
instance : Zero Tryz.prog 174 [(Go.Value.int Go.IntKind.i64 0), (Go.Value.int Go.IntKind.i64 0), (Go.Value.int Go.IntKind.i64 0), (Go.Value.int Go.IntKind.i64 0)] := ⟨_, Tryz.zeroValue174, rfl⟩
instance : Fld Tryz.prog 174 0 0 := Fld.of (n := 1) ⟨Tryz.runUnderlying174⟩ rfl ⟨Tryz.sizeOf3⟩ (by decide) rfl
instance : Fld Tryz.prog 174 1 1 := Fld.of (n := 1) ⟨Tryz.runUnderlying174⟩ rfl ⟨Tryz.sizeOf3⟩ (by decide) rfl
instance : Fld Tryz.prog 174 2 2 := Fld.of (n := 1) ⟨Tryz.runUnderlying174⟩ rfl ⟨Tryz.sizeOf3⟩ (by decide) rfl
instance : Fld Tryz.prog 174 3 3 := Fld.of (n := 1) ⟨Tryz.runUnderlying174⟩ rfl ⟨Tryz.sizeOf3⟩ (by decide) rfl
instance : Places Tryz.prog 174 (fun i => ([(0, 1), (1, 1), (2, 1), (3, 1)] : List (Nat × Nat))[i]?) := Places.struct ⟨Tryz.runUnderlying174⟩ (.c Tryz.sizeOf3 (.c Tryz.sizeOf3 (.c Tryz.sizeOf3 (.c Tryz.sizeOf3 .n))))
instance : Und Tryz.prog 186 (Go.TypeDesc.struct #[(Go.Field.mk "l" 22 0 Bool.false "" "switchgear/switchgearlaw07" 0), (Go.Field.mk "i" 3 1 Bool.false "" "switchgear/switchgearlaw07" 24)]) := ⟨Tryz.runUnderlying186⟩
instance : IsAgg Tryz.prog 186 true := ⟨Tryz.isAgg186⟩
instance : TySize Tryz.prog 186 2 := ⟨Tryz.sizeOf186⟩
instance : TyBytes Tryz.prog 186 32 := ⟨_, Tryz.typeInfo186, rfl⟩
instance : Zero Tryz.prog 186 [(Go.Value.slice none 0 0), (Go.Value.int Go.IntKind.i64 0)] := ⟨_, Tryz.zeroValue186, rfl⟩
instance : Fld Tryz.prog 186 0 0 := Fld.of (n := 1) ⟨Tryz.runUnderlying186⟩ rfl ⟨Tryz.sizeOf22⟩ (by decide) rfl
instance : Fld Tryz.prog 186 1 1 := Fld.of (n := 1) ⟨Tryz.runUnderlying186⟩ rfl ⟨Tryz.sizeOf3⟩ (by decide) rfl
instance : Places Tryz.prog 186 (fun i => ([(0, 1), (1, 1)] : List (Nat × Nat))[i]?) := Places.struct ⟨Tryz.runUnderlying186⟩ (.c Tryz.sizeOf22 (.c Tryz.sizeOf3 .n))
instance : Und Tryz.prog 194 (Go.TypeDesc.func #[3] #[31] Bool.false) := ⟨Tryz.runUnderlying194⟩
instance : IsAgg Tryz.prog 194 false := ⟨Tryz.isAgg194⟩
instance : TySize Tryz.prog 194 1 := ⟨Tryz.sizeOf194⟩
instance : TyBytes Tryz.prog 194 8 := ⟨_, Tryz.typeInfo194, rfl⟩
instance : Zero Tryz.prog 194 [Go.Value.nilFunc] := ⟨_, Tryz.zeroValue194, rfl⟩
instance : Und Tryz.prog 207 (Go.TypeDesc.func #[29] #[] Bool.false) := ⟨Tryz.runUnderlying207⟩
instance : IsAgg Tryz.prog 207 false := ⟨Tryz.isAgg207⟩
instance : TySize Tryz.prog 207 1 := ⟨Tryz.sizeOf207⟩
instance : TyBytes Tryz.prog 207 8 := ⟨_, Tryz.typeInfo207, rfl⟩
instance : Zero Tryz.prog 207 [Go.Value.nilFunc] := ⟨_, Tryz.zeroValue207, rfl⟩
instance : Und Tryz.prog 215 (Go.TypeDesc.struct #[(Go.Field.mk "Power" 3 0 Bool.false "" "" 0), (Go.Field.mk "Ramp" 3 1 Bool.false "" "" 8), (Go.Field.mk "Delay" 3 2 Bool.false "" "" 16), (Go.Field.mk "Pause" 3 3 Bool.false "" "" 24), (Go.Field.mk "Tries" 3 4 Bool.false "" "" 32)]) := ⟨Tryz.runUnderlying215⟩
instance : IsAgg Tryz.prog 215 true := ⟨Tryz.isAgg215⟩
instance : TySize Tryz.prog 215 5 := ⟨Tryz.sizeOf215⟩
instance : TyBytes Tryz.prog 215 40 := ⟨_, Tryz.typeInfo215, rfl⟩
instance : Zero Tryz.prog 215 [(Go.Value.int Go.IntKind.i64 0), (Go.Value.int Go.IntKind.i64 0), (Go.Value.int Go.IntKind.i64 0), (Go.Value.int Go.IntKind.i64 0), (Go.Value.int Go.IntKind.i64 0)] := ⟨_, Tryz.zeroValue215, rfl⟩
instance : Fld Tryz.prog 215 0 0 := Fld.of (n := 1) ⟨Tryz.runUnderlying215⟩ rfl ⟨Tryz.sizeOf3⟩ (by decide) rfl
instance : Fld Tryz.prog 215 1 1 := Fld.of (n := 1) ⟨Tryz.runUnderlying215⟩ rfl ⟨Tryz.sizeOf3⟩ (by decide) rfl
instance : Fld Tryz.prog 215 2 2 := Fld.of (n := 1) ⟨Tryz.runUnderlying215⟩ rfl ⟨Tryz.sizeOf3⟩ (by decide) rfl
instance : Fld Tryz.prog 215 3 3 := Fld.of (n := 1) ⟨Tryz.runUnderlying215⟩ rfl ⟨Tryz.sizeOf3⟩ (by decide) rfl
instance : Fld Tryz.prog 215 4 4 := Fld.of (n := 1) ⟨Tryz.runUnderlying215⟩ rfl ⟨Tryz.sizeOf3⟩ (by decide) rfl
instance : Places Tryz.prog 215 (fun i => ([(0, 1), (1, 1), (2, 1), (3, 1), (4, 1)] : List (Nat × Nat))[i]?) := Places.struct ⟨Tryz.runUnderlying215⟩ (.c Tryz.sizeOf3 (.c Tryz.sizeOf3 (.c Tryz.sizeOf3 (.c Tryz.sizeOf3 (.c Tryz.sizeOf3 .n)))))
instance : Und Tryz.prog 242 (Go.TypeDesc.map 3 3) := ⟨Tryz.runUnderlying242⟩
instance : IsAgg Tryz.prog 242 false := ⟨Tryz.isAgg242⟩
instance : TySize Tryz.prog 242 1 := ⟨Tryz.sizeOf242⟩
instance : TyBytes Tryz.prog 242 8 := ⟨_, Tryz.typeInfo242, rfl⟩
instance : Zero Tryz.prog 242 [(Go.Value.map none)] := ⟨_, Tryz.zeroValue242, rfl⟩
instance : Und Tryz.prog 257 (Go.TypeDesc.slice 49) := ⟨Tryz.runUnderlying257⟩
instance : IsAgg Tryz.prog 257 false := ⟨Tryz.isAgg257⟩
instance : TySize Tryz.prog 257 1 := ⟨Tryz.sizeOf257⟩
instance : TyBytes Tryz.prog 257 24 := ⟨_, Tryz.typeInfo257, rfl⟩
instance : Zero Tryz.prog 257 [(Go.Value.slice none 0 0)] := ⟨_, Tryz.zeroValue257, rfl⟩
instance : Und Tryz.prog 261 (Go.TypeDesc.array 3 39) := ⟨Tryz.runUnderlying261⟩
instance : IsAgg Tryz.prog 261 true := ⟨Tryz.isAgg261⟩
instance : TySize Tryz.prog 261 3 := ⟨Tryz.sizeOf261⟩
instance : TyBytes Tryz.prog 261 24 := ⟨_, Tryz.typeInfo261, rfl⟩
instance : Zero Tryz.prog 261 [Go.Value.nilFunc, Go.Value.nilFunc, Go.Value.nilFunc] := ⟨_, Tryz.zeroValue261, rfl⟩
instance : Places Tryz.prog 261 (fun i => some (i * 1, 1)) := Places.array ⟨Tryz.runUnderlying261⟩ ⟨Tryz.sizeOf39⟩
instance : Und Tryz.prog 263 (Go.TypeDesc.slice 31) := ⟨Tryz.runUnderlying263⟩
instance : IsAgg Tryz.prog 263 false := ⟨Tryz.isAgg263⟩
instance : TySize Tryz.prog 263 1 := ⟨Tryz.sizeOf263⟩
instance : TyBytes Tryz.prog 263 24 := ⟨_, Tryz.typeInfo263, rfl⟩
instance : Zero Tryz.prog 263 [(Go.Value.slice none 0 0)] := ⟨_, Tryz.zeroValue263, rfl⟩
instance : Und Tryz.prog 273 (Go.TypeDesc.pointer 282) := ⟨Tryz.runUnderlying273⟩
instance : IsAgg Tryz.prog 273 false := ⟨Tryz.isAgg273⟩
instance : TySize Tryz.prog 273 1 := ⟨Tryz.sizeOf273⟩
instance : TyBytes Tryz.prog 273 8 := ⟨_, Tryz.typeInfo273, rfl⟩
instance : Zero Tryz.prog 273 [(Go.Value.pointer none)] := ⟨_, Tryz.zeroValue273, rfl⟩
instance : Und Tryz.prog 275 (Go.TypeDesc.func #[3, 3, 4] #[3] Bool.false) := ⟨Tryz.runUnderlying275⟩
instance : IsAgg Tryz.prog 275 false := ⟨Tryz.isAgg275⟩
instance : TySize Tryz.prog 275 1 := ⟨Tryz.sizeOf275⟩
instance : TyBytes Tryz.prog 275 8 := ⟨_, Tryz.typeInfo275, rfl⟩
instance : Zero Tryz.prog 275 [Go.Value.nilFunc] := ⟨_, Tryz.zeroValue275, rfl⟩
instance : Und Tryz.prog 280 (Go.TypeDesc.slice 329) := ⟨Tryz.runUnderlying280⟩
instance : IsAgg Tryz.prog 280 false := ⟨Tryz.isAgg280⟩
instance : TySize Tryz.prog 280 1 := ⟨Tryz.sizeOf280⟩
instance : TyBytes Tryz.prog 280 24 := ⟨_, Tryz.typeInfo280, rfl⟩
instance : Zero Tryz.prog 280 [(Go.Value.slice none 0 0)] := ⟨_, Tryz.zeroValue280, rfl⟩
instance : Und Tryz.prog 282 (Go.TypeDesc.struct #[(Go.Field.mk "bank" 96 0 Bool.false "" "switchgear/bank" 0), (Go.Field.mk "starts" 29 2 Bool.false "" "switchgear/bank" 48), (Go.Field.mk "cells" 280 3 Bool.false "" "switchgear/bank" 72), (Go.Field.mk "burnt" 29 4 Bool.false "" "switchgear/bank" 96), (Go.Field.mk "served" 3 5 Bool.false "" "switchgear/bank" 120)]) := ⟨Tryz.runUnderlying282⟩
instance : IsAgg Tryz.prog 282 true := ⟨Tryz.isAgg282⟩
instance : TySize Tryz.prog 282 6 := ⟨Tryz.sizeOf282⟩
instance : TyBytes Tryz.prog 282 128 := ⟨_, Tryz.typeInfo282, rfl⟩
instance : Zero Tryz.prog 282 [(Go.Value.slice none 0 0), (Go.Value.slice none 0 0), (Go.Value.slice none 0 0), (Go.Value.slice none 0 0), (Go.Value.slice none 0 0), (Go.Value.int Go.IntKind.i64 0)] := ⟨_, Tryz.zeroValue282, rfl⟩
instance : Fld Tryz.prog 282 0 0 := Fld.of (n := 2) ⟨Tryz.runUnderlying282⟩ rfl ⟨Tryz.sizeOf96⟩ (by decide) rfl
instance : Fld Tryz.prog 282 1 2 := Fld.of (n := 1) ⟨Tryz.runUnderlying282⟩ rfl ⟨Tryz.sizeOf29⟩ (by decide) rfl
instance : Fld Tryz.prog 282 2 3 := Fld.of (n := 1) ⟨Tryz.runUnderlying282⟩ rfl ⟨Tryz.sizeOf280⟩ (by decide) rfl
instance : Fld Tryz.prog 282 3 4 := Fld.of (n := 1) ⟨Tryz.runUnderlying282⟩ rfl ⟨Tryz.sizeOf29⟩ (by decide) rfl
instance : Fld Tryz.prog 282 4 5 := Fld.of (n := 1) ⟨Tryz.runUnderlying282⟩ rfl ⟨Tryz.sizeOf3⟩ (by decide) rfl
instance : Places Tryz.prog 282 (fun i => ([(0, 2), (2, 1), (3, 1), (4, 1), (5, 1)] : List (Nat × Nat))[i]?) := Places.struct ⟨Tryz.runUnderlying282⟩ (.c Tryz.sizeOf96 (.c Tryz.sizeOf29 (.c Tryz.sizeOf280 (.c Tryz.sizeOf29 (.c Tryz.sizeOf3 .n)))))
instance : Und Tryz.prog 292 (Go.TypeDesc.struct #[(Go.Field.mk "From" 3 0 Bool.false "" "" 0), (Go.Field.mk "To" 3 1 Bool.false "" "" 8), (Go.Field.mk "Hours" 3 2 Bool.false "" "" 16), (Go.Field.mk "Power" 3 3 Bool.false "" "" 24)]) := ⟨Tryz.runUnderlying292⟩
instance : IsAgg Tryz.prog 292 true := ⟨Tryz.isAgg292⟩
instance : TySize Tryz.prog 292 4 := ⟨Tryz.sizeOf292⟩
instance : TyBytes Tryz.prog 292 32 := ⟨_, Tryz.typeInfo292, rfl⟩
instance : Zero Tryz.prog 292 [(Go.Value.int Go.IntKind.i64 0), (Go.Value.int Go.IntKind.i64 0), (Go.Value.int Go.IntKind.i64 0), (Go.Value.int Go.IntKind.i64 0)] := ⟨_, Tryz.zeroValue292, rfl⟩
instance : Fld Tryz.prog 292 0 0 := Fld.of (n := 1) ⟨Tryz.runUnderlying292⟩ rfl ⟨Tryz.sizeOf3⟩ (by decide) rfl
instance : Fld Tryz.prog 292 1 1 := Fld.of (n := 1) ⟨Tryz.runUnderlying292⟩ rfl ⟨Tryz.sizeOf3⟩ (by decide) rfl
instance : Fld Tryz.prog 292 2 2 := Fld.of (n := 1) ⟨Tryz.runUnderlying292⟩ rfl ⟨Tryz.sizeOf3⟩ (by decide) rfl
instance : Fld Tryz.prog 292 3 3 := Fld.of (n := 1) ⟨Tryz.runUnderlying292⟩ rfl ⟨Tryz.sizeOf3⟩ (by decide) rfl
instance : Places Tryz.prog 292 (fun i => ([(0, 1), (1, 1), (2, 1), (3, 1)] : List (Nat × Nat))[i]?) := Places.struct ⟨Tryz.runUnderlying292⟩ (.c Tryz.sizeOf3 (.c Tryz.sizeOf3 (.c Tryz.sizeOf3 (.c Tryz.sizeOf3 .n))))
instance : Und Tryz.prog 314 (Go.TypeDesc.int Go.IntKind.u64) := ⟨Tryz.runUnderlying314⟩
instance : IsAgg Tryz.prog 314 false := ⟨Tryz.isAgg314⟩
instance : TySize Tryz.prog 314 1 := ⟨Tryz.sizeOf314⟩
instance : TyBytes Tryz.prog 314 8 := ⟨_, Tryz.typeInfo314, rfl⟩
instance : Zero Tryz.prog 314 [(Go.Value.int Go.IntKind.u64 0)] := ⟨_, Tryz.zeroValue314, rfl⟩
instance : Und Tryz.prog 321 (Go.TypeDesc.struct #[(Go.Field.mk "Hall" 28 0 Bool.true "" "" 0), (Go.Field.mk "Case" 31 4 Bool.true "" "" 96), (Go.Field.mk "t" 29 7 Bool.false "" "switchgear/heat" 136), (Go.Field.mk "taken" 29 8 Bool.false "" "switchgear/heat" 160)]) := ⟨Tryz.runUnderlying321⟩
instance : IsAgg Tryz.prog 321 true := ⟨Tryz.isAgg321⟩
instance : TySize Tryz.prog 321 9 := ⟨Tryz.sizeOf321⟩
instance : TyBytes Tryz.prog 321 184 := ⟨_, Tryz.typeInfo321, rfl⟩
instance : Zero Tryz.prog 321 [(Go.Value.slice none 0 0), (Go.Value.slice none 0 0), (Go.Value.slice none 0 0), (Go.Value.slice none 0 0), (Go.Value.slice none 0 0), (Go.Value.int Go.IntKind.i64 0), (Go.Value.int Go.IntKind.i64 0), (Go.Value.slice none 0 0), (Go.Value.slice none 0 0)] := ⟨_, Tryz.zeroValue321, rfl⟩
instance : Fld Tryz.prog 321 0 0 := Fld.of (n := 4) ⟨Tryz.runUnderlying321⟩ rfl ⟨Tryz.sizeOf28⟩ (by decide) rfl
instance : Fld Tryz.prog 321 1 4 := Fld.of (n := 3) ⟨Tryz.runUnderlying321⟩ rfl ⟨Tryz.sizeOf31⟩ (by decide) rfl
instance : Fld Tryz.prog 321 2 7 := Fld.of (n := 1) ⟨Tryz.runUnderlying321⟩ rfl ⟨Tryz.sizeOf29⟩ (by decide) rfl
instance : Fld Tryz.prog 321 3 8 := Fld.of (n := 1) ⟨Tryz.runUnderlying321⟩ rfl ⟨Tryz.sizeOf29⟩ (by decide) rfl
instance : Places Tryz.prog 321 (fun i => ([(0, 4), (4, 3), (7, 1), (8, 1)] : List (Nat × Nat))[i]?) := Places.struct ⟨Tryz.runUnderlying321⟩ (.c Tryz.sizeOf28 (.c Tryz.sizeOf31 (.c Tryz.sizeOf29 (.c Tryz.sizeOf29 .n))))
instance : Und Tryz.prog 329 (Go.TypeDesc.struct #[(Go.Field.mk "Battery" 174 0 Bool.true "" "" 0), (Go.Field.mk "now" 3 4 Bool.false "" "switchgear/bank" 32)]) := ⟨Tryz.runUnderlying329⟩
instance : IsAgg Tryz.prog 329 true := ⟨Tryz.isAgg329⟩
instance : TySize Tryz.prog 329 5 := ⟨Tryz.sizeOf329⟩
instance : TyBytes Tryz.prog 329 40 := ⟨_, Tryz.typeInfo329, rfl⟩
instance : Zero Tryz.prog 329 [(Go.Value.int Go.IntKind.i64 0), (Go.Value.int Go.IntKind.i64 0), (Go.Value.int Go.IntKind.i64 0), (Go.Value.int Go.IntKind.i64 0), (Go.Value.int Go.IntKind.i64 0)] := ⟨_, Tryz.zeroValue329, rfl⟩
instance : Fld Tryz.prog 329 0 0 := Fld.of (n := 4) ⟨Tryz.runUnderlying329⟩ rfl ⟨Tryz.sizeOf174⟩ (by decide) rfl
instance : Fld Tryz.prog 329 1 4 := Fld.of (n := 1) ⟨Tryz.runUnderlying329⟩ rfl ⟨Tryz.sizeOf3⟩ (by decide) rfl
instance : Places Tryz.prog 329 (fun i => ([(0, 4), (4, 1)] : List (Nat × Nat))[i]?) := Places.struct ⟨Tryz.runUnderlying329⟩ (.c Tryz.sizeOf174 (.c Tryz.sizeOf3 .n))
instance : Und Tryz.prog 344 (Go.TypeDesc.int Go.IntKind.u32) := ⟨Tryz.runUnderlying344⟩
instance : IsAgg Tryz.prog 344 false := ⟨Tryz.isAgg344⟩
instance : TySize Tryz.prog 344 1 := ⟨Tryz.sizeOf344⟩
instance : TyBytes Tryz.prog 344 4 := ⟨_, Tryz.typeInfo344, rfl⟩
instance : Zero Tryz.prog 344 [(Go.Value.int Go.IntKind.u32 0)] := ⟨_, Tryz.zeroValue344, rfl⟩
instance : Und Tryz.prog 349 (Go.TypeDesc.func #[3, 3] #[] Bool.false) := ⟨Tryz.runUnderlying349⟩
instance : IsAgg Tryz.prog 349 false := ⟨Tryz.isAgg349⟩
instance : TySize Tryz.prog 349 1 := ⟨Tryz.sizeOf349⟩
instance : TyBytes Tryz.prog 349 8 := ⟨_, Tryz.typeInfo349, rfl⟩
instance : Zero Tryz.prog 349 [Go.Value.nilFunc] := ⟨_, Tryz.zeroValue349, rfl⟩
theorem _root_.Go.Proofs.Tryz.mixed : Tryz.prog.follows .mixedOrders = true := by kernel_rfl
end Go.X

set_option linter.unusedSimpArgs false
set_option linter.unusedVariables false
set_option maxRecDepth 20000
namespace Go.X.Bk
open Go.Proofs
def encBat (x : BBat) : List Value := [.int .i64 x.energy, .int .i64 x.full, .int .i64 x.power, .int .i64 x.charge]
def encGen (x : BGen) : List Value := [.int .i64 x.power, .int .i64 x.ramp, .int .i64 x.delay, .int .i64 x.pause, .int .i64 x.tries]
def encSpan (x : BSpan) : List Value := [.int .i64 x.seconds, .int .i64 x.power]
def encCell (x : BCell) : List Value := [.int .i64 x.bat.energy, .int .i64 x.bat.full, .int .i64 x.bat.power, .int .i64 x.bat.charge, .int .i64 x.now]
abbrev batV (x : BBat) : Value := .agg #[.int .i64 x.energy, .int .i64 x.full, .int .i64 x.power, .int .i64 x.charge]
abbrev genV (x : BGen) : Value := .agg #[.int .i64 x.power, .int .i64 x.ramp, .int .i64 x.delay, .int .i64 x.pause, .int .i64 x.tries]
theorem cloneI (v : Value) (h : PHeap) (xs : List Int) [s : Arr v encI 1 h xs] (hl : xs.length ≤ 68719476736) :
  Spec Tryz.prog 59 #[v] [] [h] (fun v' hs => ∃ h', hs = [h'] ∧ OArr v' encI 1 3 h' xs) := by
 refine Spec.intro (fn := Tryz.f59) (N := 8) Tryz.func59 rfl Tryz.ntmps59 rfl fun B => ?_
 refine XK.seq (XK.region rfl (XO.q (Q.assign rfl) (XO.done (XK.seq (XK.seq ?_)))))
 refine XK.region rfl (XO.q (Q.move rfl) ?_)
 refine XO.eqNil rfl fun z4 hz4 => ?_
 refine XO.done ?_
 refine XK.if rfl (fun c0 => ?_) (fun c0 => ?_)
 ·skip
  refine XK.seq (XK.region rfl (XO.q (Q.assign rfl) (XO.done ?_)))
  refine XK.rt [emp] Tryz.func59 Tryz.results59 (.t rfl .n) ?_
  exact ⟨emp, rfl, by rw [(hz4 c0).1]; exact OArr.nil (fun _ => rfl)⟩
 ·skip
  refine XK.skip (XK.seq (XK.region rfl ?_))
  refine XO.lit [] [] [] encI (by rfl) (by rfl) rfl (by rfl) (by exact .n _) (fun _ => rfl) (by rfl) rfl (by infer_instance) rfl fun v5 h5 O5 => ?_
  refine XO.q (Q.move rfl) ?_
  refine XO.append rfl rfl rfl rfl (by first | omega | (simp; omega)) fun v7 h7 O7 => ?_
  refine XO.q (Q.assign rfl) (XO.done ?_)
  refine XK.rt [h7] Tryz.func59 Tryz.results59 (.t rfl .n) ?_
  exact ⟨h7, rfl, O7⟩
theorem cloneC (v : Value) (h : PHeap) (xs : List BCell) [s : Arr v encCell 5 h xs] (hl : xs.length ≤ 68719476736) :
  Spec Tryz.prog 176 #[v] [] [h] (fun v' hs => ∃ h', hs = [h'] ∧ OArr v' encCell 5 329 h' xs) := by
 refine Spec.intro (fn := Tryz.f176) (N := 8) Tryz.func176 rfl Tryz.ntmps176 rfl fun B => ?_
 refine XK.seq (XK.region rfl (XO.q (Q.assign rfl) (XO.done (XK.seq (XK.seq ?_)))))
 refine XK.region rfl (XO.q (Q.move rfl) ?_)
 refine XO.eqNil rfl fun z4 hz4 => ?_
 refine XO.done ?_
 refine XK.if rfl (fun c0 => ?_) (fun c0 => ?_)
 ·skip
  refine XK.seq (XK.region rfl (XO.q (Q.assign rfl) (XO.done ?_)))
  refine XK.rt [emp] Tryz.func176 Tryz.results176 (.t rfl .n) ?_
  exact ⟨emp, rfl, by rw [(hz4 c0).1]; exact OArr.nil (fun _ => rfl)⟩
 ·skip
  refine XK.skip (XK.seq (XK.region rfl ?_))
  refine XO.lit [] [] [] encCell (by rfl) (by rfl) rfl (by rfl) (by exact .n _) (fun _ => rfl) (by rfl) rfl (by infer_instance) rfl fun v5 h5 O5 => ?_
  refine XO.q (Q.move rfl) ?_
  refine XO.append rfl rfl rfl rfl (by first | omega | (simp; omega)) fun v7 h7 O7 => ?_
  refine XO.q (Q.assign rfl) (XO.done ?_)
  refine XK.rt [h7] Tryz.func176 Tryz.results176 (.t rfl .n) ?_
  exact ⟨h7, rfl, O7⟩
theorem equalI (v1 v2 : Value) (h1 h2 : PHeap) (xs ys : List Int) [s1 : Arr v1 encI 1 h1 xs] [s2 : Arr v2 encI 1 h2 ys] :
  Spec Tryz.prog 35 #[v1, v2] [] [h1, h2] (fun v hs => v = .bool (decide (xs = ys)) ∧ hs = []) := by
 refine Spec.intro (fn := Tryz.f35) (N := 26) Tryz.func35 rfl Tryz.ntmps35 rfl fun B => ?_
 refine XK.seq (XK.region rfl (XO.q (Q.assign rfl) (XO.done (XK.seq (XK.seq ?_)))))
 refine XK.region rfl (XO.q (Q.move rfl) ?_)
 refine XO.len rfl fun l7 => ?_
 refine XO.q (Q.move rfl) ?_
 refine XO.len rfl fun l9 => ?_
 refine XO.q (Q.neq rfl rfl) ?_
 refine XO.done ?_
 refine XK.if rfl (fun c0 => ?_) (fun c0 => ?_)
 ·skip
  refine XK.seq (XK.region rfl (XO.q (Q.assign rfl) (XO.done ?_)))
  refine XK.rt [] Tryz.func35 Tryz.results35 (.t rfl .n) ?_
  exact ⟨by rw [decide_eq_false (fun h => c0 (by rw [h]))], rfl⟩
 ·skip
  refine XK.skip (XK.seq (XK.seq (XK.region rfl (XO.q (Q.move rfl) ?_))))
  refine XO.len rfl fun l12 => ?_
  refine XO.q (Q.move rfl) (XO.done (XK.block ?_))
  refine XK.while (X := Nat) [4, 5, 13, 14, 15, 16, 17, 18, 19, 20, 21, 22, 23, 24, 25] (fun i => [(13, some (.int .i64 (i : Nat)))]) (fun i => []) (fun i => i ≤ xs.length ∧ xs.take i = ys.take i) (fun i => xs.length - i) (0) [] rfl ⟨by omega, rfl⟩ (.c rfl (.base 0 rfl rfl)) ?_
  rintro i ⟨hi, ht⟩ ih0
  dsimp only [lcA, lnA] at ih0 ⊢
  refine XK.seq (XK.region rfl ?_)
  refine XO.q (Q.lss rfl rfl) ?_
  refine XO.done (XK.seq ?_)
  refine XK.if rfl (fun c1 => ?_) (fun c1 => ?_)
  ·skip
   refine XK.skip (XK.seq (XK.block (XK.seq (XK.region rfl (XO.q (Q.move rfl) ?_)))))
   refine XO.q (Q.assign rfl) (XO.done (XK.seq ?_))
   refine XK.drawn [0, 1, 2, 3, 4, 5, 6, 7, 8] [] [] (.q 0 (.q 1 (.q 2 (.q 3 (.q 4 (.q 5 (.q 6 (.q 7 (.q 8 .done))))))))) Tryz.mixed rfl (by kernel_rfl) ?_
   refine XT.q rfl rfl (Q.move rfl) ?_
   refine XT.q rfl rfl (Q.move rfl) ?_
   refine XT.ix rfl rfl rfl rfl (by omega) (by omega) fun i18 => ?_
   refine XT.q rfl rfl (Q.ldE rfl (by first | assumption | omega) rfl) ?_
   refine XT.q rfl rfl (Q.move rfl) ?_
   refine XT.q rfl rfl (Q.move rfl) ?_
   refine XT.ix rfl rfl rfl rfl (by omega) (by omega) fun i22 => ?_
   refine XT.q rfl rfl (Q.ldE rfl (by first | assumption | omega) rfl) ?_
   refine XT.q rfl rfl (Q.neq rfl rfl) ?_
   refine XT.done ?_
   refine XK.if rfl (fun c2 => ?_) (fun c2 => ?_)
   ·skip
    refine XK.seq (XK.region rfl (XO.q (Q.assign rfl) (XO.done ?_)))
    refine XK.rt [] Tryz.func35 Tryz.results35 (.t rfl .n) ?_
    exact ⟨by rw [decide_eq_false (fun h => c2 (by rw [h]))], rfl⟩
   ·skip
    refine XK.skip ?_
    refine XK.inBlock ?_
    refine XK.region rfl ?_
    refine XO.q (Q.add rfl rfl ⟨by omega, by omega⟩) ?_
    refine XO.q (Q.move rfl) (XO.done ?_)
    exact ih0 (i + 1) _ _ ⟨by omega, take_step ht (by omega) (by omega) (Decidable.of_not_not c2)⟩ (by first | omega | (dsimp only; omega)) (.c rfl (.base 30 rfl rfl)) inferInstance
  ·skip
   refine XK.exit rfl ?_
   refine XK.seq (XK.region rfl (XO.q (Q.assign rfl) (XO.done ?_)))
   refine XK.rt [] Tryz.func35 Tryz.results35 (.t rfl .n) ?_
   exact ⟨by rw [decide_eq_true (take_all ht c1 (by omega))], rfl⟩
theorem indexFuncI (v : Value) (h : PHeap) (xs : List Int) [s : Arr v encI 1 h xs] (gid : FuncId) (cap : List Value) (Hr : List PHeap) (p : Int → Bool)
  (hc : ∀ args w, (callFunc gid args).run Tryz.prog w = .ok (.enter gid args) w) (hS : ∀ x ∈ xs, Spec Tryz.prog gid (.int .i64 x :: cap).toArray [] Hr (fun v hs => v = .bool (p x) ∧ hs = [])) :
  Spec Tryz.prog 159 #[v, .func (.func gid) #[] cap.toArray] [] (h :: Hr) (fun v hs => v = .int .i64 (findFirst p xs) ∧ hs = []) := by
 refine Spec.intro (fn := Tryz.f159) (N := 19) Tryz.func159 rfl Tryz.ntmps159 rfl fun B => ?_
 refine XK.seq (XK.region rfl (XO.q (Q.assign rfl) (XO.done (XK.seq (XK.seq ?_)))))
 refine XK.region rfl (XO.q (Q.move rfl) ?_)
 refine XO.len rfl fun l7 => ?_
 refine XO.q (Q.move rfl) (XO.done (XK.block ?_))
 refine XK.while (X := Nat) [4, 5, 8, 9, 10, 11, 12, 13, 14, 15, 16, 17, 18] (fun i => [(8, some (.int .i64 (i : Nat)))]) (fun i => []) (fun i => i ≤ xs.length ∧ (xs.take i).any p = false) (fun i => xs.length - i) (0) [] rfl ⟨by omega, rfl⟩ (.c rfl (.base 0 rfl rfl)) ?_
 rintro i ⟨hi, ht⟩ ih0
 dsimp only [lcA, lnA] at ih0 ⊢
 refine XK.seq (XK.region rfl ?_)
 refine XO.q (Q.lss rfl rfl) ?_
 refine XO.done (XK.seq ?_)
 refine XK.if rfl (fun c0 => ?_) (fun c0 => ?_)
 ·skip
  refine XK.skip (XK.seq (XK.block (XK.seq (XK.region rfl (XO.q (Q.move rfl) ?_)))))
  refine XO.q (Q.assign rfl) (XO.done (XK.seq (XK.region rfl (XO.q (Q.move rfl) (XO.q (Q.move rfl) ?_)))))
  refine XO.q (Q.move rfl) ?_
  refine XO.ix rfl rfl (by omega) (by omega) fun i14 => ?_
  refine XO.q (Q.ldE rfl (by first | assumption | omega) rfl) ?_
  refine XO.call hc rfl rfl rfl (hS _ (getD_mem (by omega))) fun v16 s16 R16 => ?_
  obtain ⟨rfl, rfl⟩ := R16
  dsimp only [lcA, lnA]
  refine XO.done ?_
  refine XK.if rfl (fun c1 => ?_) (fun c1 => ?_)
  ·skip
   refine XK.seq (XK.region rfl (XO.q (Q.move rfl) (XO.q (Q.assign rfl) (XO.done ?_))))
   refine XK.rt [] Tryz.func159 Tryz.results159 (.t rfl .n) ?_
   exact ⟨by rw [findFirst_here ht (by omega) c1], rfl⟩
  ·skip
   refine XK.skip ?_
   refine XK.inBlock ?_
   refine XK.region rfl ?_
   refine XO.q (Q.add rfl rfl ⟨by omega, by omega⟩) ?_
   refine XO.q (Q.move rfl) (XO.done ?_)
   exact ih0 (i + 1) _ _ ⟨by omega, any_step ht (by omega) (Bool.eq_false_iff.2 c1)⟩ (by first | omega | (dsimp only; omega)) (.c rfl (.base 25 rfl rfl)) inferInstance
 ·skip
  refine XK.exit rfl ?_
  refine XK.seq (XK.region rfl (XO.q (Q.assign rfl) (XO.done ?_)))
  refine XK.rt [] Tryz.func159 Tryz.results159 (.t rfl .n) ?_
  exact ⟨by rw [findFirst_none ht c0], rfl⟩
theorem containsFuncI (v : Value) (h : PHeap) (xs : List Int) [s : Arr v encI 1 h xs] (gid : FuncId) (cap : List Value) (Hr : List PHeap) (p : Int → Bool)
  (hc : ∀ args w, (callFunc gid args).run Tryz.prog w = .ok (.enter gid args) w) (hS : ∀ x ∈ xs, Spec Tryz.prog gid (.int .i64 x :: cap).toArray [] Hr (fun v hs => v = .bool (p x) ∧ hs = [])) :
  Spec Tryz.prog 97 #[v, .func (.func gid) #[] cap.toArray] [] (h :: Hr) (fun v hs => v = .bool (xs.any p) ∧ hs = []) := by
 refine Spec.intro (fn := Tryz.f97) (N := 9) Tryz.func97 rfl Tryz.ntmps97 rfl fun B => ?_
 refine XK.seq (XK.region rfl (XO.q (Q.assign rfl) (XO.done (XK.seq (XK.region rfl ?_)))))
 refine XO.q (Q.move rfl) (XO.q (Q.move rfl) ?_)
 refine XO.call Tryz.call159 rfl rfl rfl (indexFuncI v h xs gid cap Hr p hc hS) fun v7 s7 R7 => ?_
 obtain ⟨rfl, rfl⟩ := R7
 dsimp only [lcA, lnA]
 refine XO.q (Q.geq rfl rfl) ?_
 refine XO.q (Q.assign rfl) (XO.done ?_)
 refine XK.rt [] Tryz.func97 Tryz.results97 (.t rfl .n) ?_
 exact ⟨by rw [← findFirst_any], rfl⟩
theorem indexFuncB (v : Value) (h : PHeap) (xs : List BBat) [s : Arr v encBat 4 h xs] (gid : FuncId) (cap : List Value) (Hr : List PHeap) (p : BBat → Bool)
  (hc : ∀ args w, (callFunc gid args).run Tryz.prog w = .ok (.enter gid args) w) (hS : ∀ x ∈ xs, Spec Tryz.prog gid (batV x :: cap).toArray [] Hr (fun v hs => v = .bool (p x) ∧ hs = [])) :
  Spec Tryz.prog 182 #[v, .func (.func gid) #[] cap.toArray] [] (h :: Hr) (fun v hs => v = .int .i64 (findFirst p xs) ∧ hs = []) := by
 refine Spec.intro (fn := Tryz.f182) (N := 19) Tryz.func182 rfl Tryz.ntmps182 rfl fun B => ?_
 refine XK.seq (XK.region rfl (XO.q (Q.assign rfl) (XO.done (XK.seq (XK.seq ?_)))))
 refine XK.region rfl (XO.q (Q.move rfl) ?_)
 refine XO.len rfl fun l7 => ?_
 refine XO.q (Q.move rfl) (XO.done (XK.block ?_))
 refine XK.while (X := Nat) [4, 5, 8, 9, 10, 11, 12, 13, 14, 15, 16, 17, 18] (fun i => [(8, some (.int .i64 (i : Nat)))]) (fun i => []) (fun i => i ≤ xs.length ∧ (xs.take i).any p = false) (fun i => xs.length - i) (0) [] rfl ⟨by omega, rfl⟩ (.c rfl (.base 0 rfl rfl)) ?_
 rintro i ⟨hi, ht⟩ ih0
 dsimp only [lcA, lnA] at ih0 ⊢
 refine XK.seq (XK.region rfl ?_)
 refine XO.q (Q.lss rfl rfl) ?_
 refine XO.done (XK.seq ?_)
 refine XK.if rfl (fun c0 => ?_) (fun c0 => ?_)
 ·skip
  refine XK.skip (XK.seq (XK.block (XK.seq (XK.region rfl (XO.q (Q.move rfl) ?_)))))
  refine XO.q (Q.assign rfl) (XO.done (XK.seq (XK.region rfl (XO.q (Q.move rfl) (XO.q (Q.move rfl) ?_)))))
  refine XO.q (Q.move rfl) ?_
  refine XO.ix rfl rfl (by omega) (by omega) fun i14 => ?_
  refine XO.q (Q.ldEA [_, _, _, _] rfl (by first | assumption | omega) rfl rfl) ?_
  refine XO.call hc rfl rfl rfl (hS _ (getD_mem (by omega))) fun v16 s16 R16 => ?_
  obtain ⟨rfl, rfl⟩ := R16
  dsimp only [lcA, lnA]
  refine XO.done ?_
  refine XK.if rfl (fun c1 => ?_) (fun c1 => ?_)
  ·skip
   refine XK.seq (XK.region rfl (XO.q (Q.move rfl) (XO.q (Q.assign rfl) (XO.done ?_))))
   refine XK.rt [] Tryz.func182 Tryz.results182 (.t rfl .n) ?_
   exact ⟨by rw [findFirst_here ht (by omega) c1], rfl⟩
  ·skip
   refine XK.skip ?_
   refine XK.inBlock ?_
   refine XK.region rfl ?_
   refine XO.q (Q.add rfl rfl ⟨by omega, by omega⟩) ?_
   refine XO.q (Q.move rfl) (XO.done ?_)
   exact ih0 (i + 1) _ _ ⟨by omega, any_step ht (by omega) (Bool.eq_false_iff.2 c1)⟩ (by first | omega | (dsimp only; omega)) (.c rfl (.base 25 rfl rfl)) inferInstance
 ·skip
  refine XK.exit rfl ?_
  refine XK.seq (XK.region rfl (XO.q (Q.assign rfl) (XO.done ?_)))
  refine XK.rt [] Tryz.func182 Tryz.results182 (.t rfl .n) ?_
  exact ⟨by rw [findFirst_none ht c0], rfl⟩
theorem containsFuncB (v : Value) (h : PHeap) (xs : List BBat) [s : Arr v encBat 4 h xs] (gid : FuncId) (cap : List Value) (Hr : List PHeap) (p : BBat → Bool)
  (hc : ∀ args w, (callFunc gid args).run Tryz.prog w = .ok (.enter gid args) w) (hS : ∀ x ∈ xs, Spec Tryz.prog gid (batV x :: cap).toArray [] Hr (fun v hs => v = .bool (p x) ∧ hs = [])) :
  Spec Tryz.prog 135 #[v, .func (.func gid) #[] cap.toArray] [] (h :: Hr) (fun v hs => v = .bool (xs.any p) ∧ hs = []) := by
 refine Spec.intro (fn := Tryz.f135) (N := 9) Tryz.func135 rfl Tryz.ntmps135 rfl fun B => ?_
 refine XK.seq (XK.region rfl (XO.q (Q.assign rfl) (XO.done (XK.seq (XK.region rfl ?_)))))
 refine XO.q (Q.move rfl) (XO.q (Q.move rfl) ?_)
 refine XO.call Tryz.call182 rfl rfl rfl (indexFuncB v h xs gid cap Hr p hc hS) fun v7 s7 R7 => ?_
 obtain ⟨rfl, rfl⟩ := R7
 dsimp only [lcA, lnA]
 refine XO.q (Q.geq rfl rfl) ?_
 refine XO.q (Q.assign rfl) (XO.done ?_)
 refine XK.rt [] Tryz.func135 Tryz.results135 (.t rfl .n) ?_
 exact ⟨by rw [← findFirst_any], rfl⟩
theorem indexFuncG (v : Value) (h : PHeap) (xs : List BGen) [s : Arr v encGen 5 h xs] (gid : FuncId) (cap : List Value) (Hr : List PHeap) (p : BGen → Bool)
  (hc : ∀ args w, (callFunc gid args).run Tryz.prog w = .ok (.enter gid args) w) (hS : ∀ x ∈ xs, Spec Tryz.prog gid (genV x :: cap).toArray [] Hr (fun v hs => v = .bool (p x) ∧ hs = [])) :
  Spec Tryz.prog 183 #[v, .func (.func gid) #[] cap.toArray] [] (h :: Hr) (fun v hs => v = .int .i64 (findFirst p xs) ∧ hs = []) := by
 refine Spec.intro (fn := Tryz.f183) (N := 19) Tryz.func183 rfl Tryz.ntmps183 rfl fun B => ?_
 refine XK.seq (XK.region rfl (XO.q (Q.assign rfl) (XO.done (XK.seq (XK.seq ?_)))))
 refine XK.region rfl (XO.q (Q.move rfl) ?_)
 refine XO.len rfl fun l7 => ?_
 refine XO.q (Q.move rfl) (XO.done (XK.block ?_))
 refine XK.while (X := Nat) [4, 5, 8, 9, 10, 11, 12, 13, 14, 15, 16, 17, 18] (fun i => [(8, some (.int .i64 (i : Nat)))]) (fun i => []) (fun i => i ≤ xs.length ∧ (xs.take i).any p = false) (fun i => xs.length - i) (0) [] rfl ⟨by omega, rfl⟩ (.c rfl (.base 0 rfl rfl)) ?_
 rintro i ⟨hi, ht⟩ ih0
 dsimp only [lcA, lnA] at ih0 ⊢
 refine XK.seq (XK.region rfl ?_)
 refine XO.q (Q.lss rfl rfl) ?_
 refine XO.done (XK.seq ?_)
 refine XK.if rfl (fun c0 => ?_) (fun c0 => ?_)
 ·skip
  refine XK.skip (XK.seq (XK.block (XK.seq (XK.region rfl (XO.q (Q.move rfl) ?_)))))
  refine XO.q (Q.assign rfl) (XO.done (XK.seq (XK.region rfl (XO.q (Q.move rfl) (XO.q (Q.move rfl) ?_)))))
  refine XO.q (Q.move rfl) ?_
  refine XO.ix rfl rfl (by omega) (by omega) fun i14 => ?_
  refine XO.q (Q.ldEA [_, _, _, _, _] rfl (by first | assumption | omega) rfl rfl) ?_
  refine XO.call hc rfl rfl rfl (hS _ (getD_mem (by omega))) fun v16 s16 R16 => ?_
  obtain ⟨rfl, rfl⟩ := R16
  dsimp only [lcA, lnA]
  refine XO.done ?_
  refine XK.if rfl (fun c1 => ?_) (fun c1 => ?_)
  ·skip
   refine XK.seq (XK.region rfl (XO.q (Q.move rfl) (XO.q (Q.assign rfl) (XO.done ?_))))
   refine XK.rt [] Tryz.func183 Tryz.results183 (.t rfl .n) ?_
   exact ⟨by rw [findFirst_here ht (by omega) c1], rfl⟩
  ·skip
   refine XK.skip ?_
   refine XK.inBlock ?_
   refine XK.region rfl ?_
   refine XO.q (Q.add rfl rfl ⟨by omega, by omega⟩) ?_
   refine XO.q (Q.move rfl) (XO.done ?_)
   exact ih0 (i + 1) _ _ ⟨by omega, any_step ht (by omega) (Bool.eq_false_iff.2 c1)⟩ (by first | omega | (dsimp only; omega)) (.c rfl (.base 25 rfl rfl)) inferInstance
 ·skip
  refine XK.exit rfl ?_
  refine XK.seq (XK.region rfl (XO.q (Q.assign rfl) (XO.done ?_)))
  refine XK.rt [] Tryz.func183 Tryz.results183 (.t rfl .n) ?_
  exact ⟨by rw [findFirst_none ht c0], rfl⟩
theorem containsFuncG (v : Value) (h : PHeap) (xs : List BGen) [s : Arr v encGen 5 h xs] (gid : FuncId) (cap : List Value) (Hr : List PHeap) (p : BGen → Bool)
  (hc : ∀ args w, (callFunc gid args).run Tryz.prog w = .ok (.enter gid args) w) (hS : ∀ x ∈ xs, Spec Tryz.prog gid (genV x :: cap).toArray [] Hr (fun v hs => v = .bool (p x) ∧ hs = [])) :
  Spec Tryz.prog 138 #[v, .func (.func gid) #[] cap.toArray] [] (h :: Hr) (fun v hs => v = .bool (xs.any p) ∧ hs = []) := by
 refine Spec.intro (fn := Tryz.f138) (N := 9) Tryz.func138 rfl Tryz.ntmps138 rfl fun B => ?_
 refine XK.seq (XK.region rfl (XO.q (Q.assign rfl) (XO.done (XK.seq (XK.region rfl ?_)))))
 refine XO.q (Q.move rfl) (XO.q (Q.move rfl) ?_)
 refine XO.call Tryz.call183 rfl rfl rfl (indexFuncG v h xs gid cap Hr p hc hS) fun v7 s7 R7 => ?_
 obtain ⟨rfl, rfl⟩ := R7
 dsimp only [lcA, lnA]
 refine XO.q (Q.geq rfl rfl) ?_
 refine XO.q (Q.assign rfl) (XO.done ?_)
 refine XK.rt [] Tryz.func138 Tryz.results138 (.t rfl .n) ?_
 exact ⟨by rw [← findFirst_any], rfl⟩
theorem within1 (b : Nat) (m x : Int) : Spec Tryz.prog 141 #[.int .i64 x, ptr b 0] [] [blk b [.int .i64 m] 3] (fun v hs => v = .bool (outP m x) ∧ hs = []) := by
 refine Spec.intro (fn := Tryz.f141) (N := 11) Tryz.func141 rfl Tryz.ntmps141 rfl fun B => ?_
 refine XK.seq (XK.region rfl (XO.q (Q.assign rfl) (XO.done (XK.seq (XK.region rfl ?_)))))
 refine XO.q (Q.move rfl) ?_
 refine XO.q (Q.lss rfl rfl) ?_
 refine XO.q (Q.move rfl) ?_
 refine XO.q (Quiet.guardF rfl rfl fun g7 p7 => Q.move rfl) ?_
 refine XO.q (Quiet.guardF rfl rfl fun g8 p8 => Q.ld rfl rfl) ?_
 refine XO.q (Quiet.guardF rfl rfl fun g9 p9 => Q.gtr (lzv g9 rfl) (lzv g9 rfl)) ?_
 refine XO.q (Q.or rfl (fun hp => lzv hp rfl)) ?_
 refine XO.q (Q.assign rfl) (XO.done ?_)
 refine XK.rt [] Tryz.func141 Tryz.results141 (.t rfl .n) ?_
 exact ⟨rfl, rfl⟩
theorem within_spec (m : Int) (v : Value) (h : PHeap) (xs : List Int) [s : Arr v encI 1 h xs] : Spec Tryz.prog 78 #[.int .i64 m, v] [] [h] (fun v hs => v = .bool (inA m xs) ∧ hs = []) := by
 refine Spec.intro (fn := Tryz.f78) (N := 9) Tryz.func78 rfl Tryz.ntmps78 rfl fun B => ?_
 refine XK.seq (XK.region rfl ?_)
 refine XO.box rfl fun b2 => ?_
 refine XO.q (Q.assign rfl) (XO.done (XK.seq (XK.region rfl (XO.q (Q.move rfl) ?_))))
 refine XO.q (Q.func (fun _ he => rfl) (fun _ he => evs_rel he rfl)) ?_
 refine XO.call Tryz.call97 rfl rfl rfl (containsFuncI v h xs 141 [ptr b2 0] [blk b2 [.int .i64 m] 3] (outP m) Tryz.call141 (fun x hx => within1 b2 m x)) fun v7 s7 R7 => ?_
 obtain ⟨rfl, rfl⟩ := R7
 dsimp only [lcA, lnA]
 refine XO.q (Q.not rfl) ?_
 refine XO.q (Q.assign rfl) (XO.done ?_)
 refine XK.rt [] Tryz.func78 Tryz.results78 (.t rfl .n) ?_
 exact ⟨rfl, rfl⟩
theorem batRight (x : BBat) : Spec Tryz.prog 137 #[batV x] [] [] (fun v hs => v = .bool (batOk x) ∧ hs = []) := by
 refine Spec.intro (fn := Tryz.f137) (N := 24) Tryz.func137 rfl Tryz.ntmps137 rfl fun B => ?_
 refine XK.seq (XK.region rfl ?_)
 refine XO.box rfl fun b1 => ?_
 refine XO.q (Q.assign rfl) (XO.done (XK.seq (XK.region rfl ?_)))
 refine XO.q (Q.fieldAddr rfl) ?_
 refine XO.q (Q.ld rfl rfl) ?_
 refine XO.q (Q.fieldAddr rfl) ?_
 refine XO.q (Q.ld rfl rfl) ?_
 refine XO.lit [_, _] [_, _] [x.energy, x.full] encI (by rfl) (by rfl) rfl (by rfl) (by exact .c 0 1 rfl rfl rfl (.c 1 1 rfl rfl rfl (.n _))) (fun _ => rfl) (by rfl) rfl (by infer_instance) rfl fun v7 h7 O7 => ?_
 refine XO.call Tryz.call78 rfl rfl rfl (within_spec 100000000000 v7 h7 [x.energy, x.full]) fun v8 s8 R8 => ?_
 obtain ⟨rfl, rfl⟩ := R8
 dsimp only [lcA, lnA]
 refine XO.q (Q.move rfl) ?_
 refine XO.q (Quiet.guardT rfl rfl fun g10 p10 => Q.fieldAddr rfl) ?_
 refine XO.q (Quiet.guardT rfl rfl fun g11 p11 => Q.ld (lzv g11 rfl) rfl) ?_
 refine XO.q (Quiet.guardT rfl rfl fun g12 p12 => Q.fieldAddr rfl) ?_
 refine XO.q (Quiet.guardT rfl rfl fun g13 p13 => Q.ld (lzv g13 rfl) rfl) ?_
 refine XO.q (Quiet.guardT rfl rfl fun g14 p14 => Q.leq (lzv g14 rfl) (lzv g14 rfl)) ?_
 refine XO.q (Q.and rfl (fun hp => lzv hp rfl)) ?_
 refine XO.q (Q.move rfl) ?_
 refine XO.q (Quiet.guardT rfl rfl fun g17 p17 => Q.fieldAddr rfl) ?_
 refine XO.q (Quiet.guardT rfl rfl fun g18 p18 => Q.ld (lzv g18 rfl) rfl) ?_
 refine XO.q (Quiet.guardT rfl rfl fun g19 p19 => Q.fieldAddr rfl) ?_
 refine XO.q (Quiet.guardT rfl rfl fun g20 p20 => Q.ld (lzv g20 rfl) rfl) ?_
 refine XO.lit1 [_, _] [_, _] [x.power, x.charge] encI rfl rfl (by rfl) (by rfl) rfl (by rfl) (fun g21 => by exact .c 0 1 (lzv g21 rfl) rfl rfl (.c 1 1 (lzv g21 rfl) rfl rfl (.n _))) (fun _ => rfl) (by rfl) rfl (fun _ => by infer_instance) rfl (fun v21 h21 O21 => ?_)
 refine XO.gcallT rfl rfl Tryz.call78 rfl (fun g22 => .c rfl (.c (lzv g22 rfl) .n)) rfl (fun g22 p22 => by haveI := O21 g22; exact within_spec 1000000 v21 h21 [x.power, x.charge]) ?_
 refine XO.q (Q.and rfl (fun hp => lzv hp rfl)) ?_
 refine XO.q (Q.assign rfl) (XO.done ?_)
 refine XK.rt [] Tryz.func137 Tryz.results137 (.t rfl .n) ?_
 exact ⟨rfl, rfl⟩
theorem genRight (x : BGen) : Spec Tryz.prog 140 #[genV x] [] [] (fun v hs => v = .bool (genOk x) ∧ hs = []) := by
 refine Spec.intro (fn := Tryz.f140) (N := 27) Tryz.func140 rfl Tryz.ntmps140 rfl fun B => ?_
 refine XK.seq (XK.region rfl ?_)
 refine XO.box rfl fun b1 => ?_
 refine XO.q (Q.assign rfl) (XO.done (XK.seq (XK.region rfl ?_)))
 refine XO.q (Q.fieldAddr rfl) ?_
 refine XO.q (Q.ld rfl rfl) ?_
 refine XO.q (Q.fieldAddr rfl) ?_
 refine XO.q (Q.ld rfl rfl) ?_
 refine XO.lit [_, _] [_, _] [x.power, x.ramp] encI (by rfl) (by rfl) rfl (by rfl) (by exact .c 0 1 rfl rfl rfl (.c 1 1 rfl rfl rfl (.n _))) (fun _ => rfl) (by rfl) rfl (by infer_instance) rfl fun v7 h7 O7 => ?_
 refine XO.call Tryz.call78 rfl rfl rfl (within_spec 1000000 v7 h7 [x.power, x.ramp]) fun v8 s8 R8 => ?_
 obtain ⟨rfl, rfl⟩ := R8
 dsimp only [lcA, lnA]
 refine XO.q (Q.move rfl) ?_
 refine XO.q (Quiet.guardT rfl rfl fun g10 p10 => Q.fieldAddr rfl) ?_
 refine XO.q (Quiet.guardT rfl rfl fun g11 p11 => Q.ld (lzv g11 rfl) rfl) ?_
 refine XO.q (Quiet.guardT rfl rfl fun g12 p12 => Q.fieldAddr rfl) ?_
 refine XO.q (Quiet.guardT rfl rfl fun g13 p13 => Q.ld (lzv g13 rfl) rfl) ?_
 refine XO.lit1 [_, _] [_, _] [x.delay, x.pause] encI rfl rfl (by rfl) (by rfl) rfl (by rfl) (fun g14 => by exact .c 0 1 (lzv g14 rfl) rfl rfl (.c 1 1 (lzv g14 rfl) rfl rfl (.n _))) (fun _ => rfl) (by rfl) rfl (fun _ => by infer_instance) rfl (fun v14 h14 O14 => ?_)
 refine XO.gcallT rfl rfl Tryz.call78 rfl (fun g15 => .c rfl (.c (lzv g15 rfl) .n)) rfl (fun g15 p15 => by haveI := O14 g15; exact within_spec 3600 v14 h14 [x.delay, x.pause]) ?_
 refine XO.q (Q.and rfl (fun hp => lzv hp rfl)) ?_
 refine XO.q (Q.move rfl) ?_
 refine XO.q (Quiet.guardT rfl rfl fun g18 p18 => Q.fieldAddr rfl) ?_
 refine XO.q (Quiet.guardT rfl rfl fun g19 p19 => Q.ld (lzv g19 rfl) rfl) ?_
 refine XO.q (Quiet.guardT rfl rfl fun g20 p20 => Q.geq (lzv g20 rfl) rfl) ?_
 refine XO.q (Q.and rfl (fun hp => lzv hp rfl)) ?_
 refine XO.q (Q.move rfl) ?_
 refine XO.q (Quiet.guardT rfl rfl fun g23 p23 => Q.fieldAddr rfl) ?_
 refine XO.q (Quiet.guardT rfl rfl fun g24 p24 => Q.ld (lzv g24 rfl) rfl) ?_
 refine XO.q (Quiet.guardT rfl rfl fun g25 p25 => Q.leq (lzv g25 rfl) rfl) ?_
 refine XO.q (Q.and rfl (fun hp => lzv hp rfl)) ?_
 refine XO.q (Q.assign rfl) (XO.done ?_)
 refine XK.rt [] Tryz.func140 Tryz.results140 (.t rfl .n) ?_
 exact ⟨rfl, rfl⟩
theorem check1 (x : BBat) : Spec Tryz.prog 136 #[batV x] [] [] (fun v hs => v = .bool (!batOk x) ∧ hs = []) := by
 refine Spec.intro (fn := Tryz.f136) (N := 6) Tryz.func136 rfl Tryz.ntmps136 rfl fun B => ?_
 refine XK.seq (XK.region rfl ?_)
 refine XO.box rfl fun b1 => ?_
 refine XO.q (Q.assign rfl) (XO.done (XK.seq (XK.region rfl ?_)))
 refine XO.q (Q.ldA [_, _, _, _] rfl rfl rfl) ?_
 refine XO.call Tryz.call137 rfl rfl rfl (batRight x) fun v4 s4 R4 => ?_
 obtain ⟨rfl, rfl⟩ := R4
 dsimp only [lcA, lnA]
 refine XO.q (Q.not rfl) ?_
 refine XO.q (Q.assign rfl) (XO.done ?_)
 refine XK.rt [] Tryz.func136 Tryz.results136 (.t rfl .n) ?_
 exact ⟨rfl, rfl⟩
theorem check2 (x : BGen) : Spec Tryz.prog 139 #[genV x] [] [] (fun v hs => v = .bool (!genOk x) ∧ hs = []) := by
 refine Spec.intro (fn := Tryz.f139) (N := 6) Tryz.func139 rfl Tryz.ntmps139 rfl fun B => ?_
 refine XK.seq (XK.region rfl ?_)
 refine XO.box rfl fun b1 => ?_
 refine XO.q (Q.assign rfl) (XO.done (XK.seq (XK.region rfl ?_)))
 refine XO.q (Q.ldA [_, _, _, _, _] rfl rfl rfl) ?_
 refine XO.call Tryz.call140 rfl rfl rfl (genRight x) fun v4 s4 R4 => ?_
 obtain ⟨rfl, rfl⟩ := R4
 dsimp only [lcA, lnA]
 refine XO.q (Q.not rfl) ?_
 refine XO.q (Q.assign rfl) (XO.done ?_)
 refine XK.rt [] Tryz.func139 Tryz.results139 (.t rfl .n) ?_
 exact ⟨rfl, rfl⟩
theorem Check_spec (b : BBank) (vb vg : Value) (hb hg : PHeap) [ib : Arr vb encBat 4 hb b.bats] [ig : Arr vg encGen 5 hg b.gens] : Spec Tryz.prog 77 #[.agg #[vb, vg]] [] [hb, hg] (fun v hs => v = .int .i64 (bcheck b) ∧ hs = []) := by
 have lb := ib.le
 have lg := ig.le
 refine Spec.intro (fn := Tryz.f77) (N := 23) Tryz.func77 rfl Tryz.ntmps77 rfl fun B => ?_
 refine XK.seq (XK.region rfl ?_)
 refine XO.box rfl fun b1 => ?_
 refine XO.q (Q.assign rfl) (XO.done (XK.seq (XK.block (XK.seq (XK.region rfl ?_)))))
 refine XO.q (Q.fieldAddr rfl) ?_
 refine XO.q (Q.ld rfl rfl) ?_
 refine XO.len rfl fun l6 => ?_
 refine XO.q (Q.gtr rfl rfl) ?_
 refine XO.q (Q.move rfl) ?_
 refine XO.q (Quiet.guardF rfl rfl fun g9 p9 => Q.fieldAddr rfl) ?_
 refine XO.q (Quiet.guardF rfl rfl fun g10 p10 => Q.ld (lzv g10 rfl) rfl) ?_
 refine XO.q (Quiet.guardF rfl rfl fun g11 p11 => Q.len (lzv g11 rfl)) ?_
 refine XO.q (Quiet.guardF rfl rfl fun g12 p12 => Q.gtr (lzv g12 rfl) rfl) ?_
 refine XO.q (Q.or rfl (fun hp => lzv hp rfl)) ?_
 refine XO.q (Q.assign rfl) (XO.done ?_)
 refine XK.if rfl (fun c0 => ?_) (fun c0 => ?_)
 ·skip
  refine XK.seq (XK.region rfl (XO.q (Q.assign rfl) (XO.done ?_)))
  refine XK.rt [] Tryz.func77 Tryz.results77 (.t rfl .n) ?_
  exact ⟨by rw [bcheck, if_pos (by omega)], rfl⟩
 ·skip
  refine XK.seq (XK.region rfl ?_)
  refine XO.q (Q.fieldAddr rfl) ?_
  refine XO.q (Q.ld rfl rfl) ?_
  refine XO.call Tryz.call135 rfl rfl rfl (containsFuncB vb hb b.bats 136 [] [] (fun x => !batOk x) Tryz.call136 (fun x hx => check1 x)) fun v17 s17 R17 => ?_
  obtain ⟨rfl, rfl⟩ := R17
  dsimp only [lcA, lnA]
  refine XO.q (Q.move rfl) ?_
  refine XO.q (Quiet.guardF rfl rfl fun g19 p19 => Q.fieldAddr rfl) ?_
  refine XO.q (Quiet.guardF rfl rfl fun g20 p20 => Q.ld (lzv g20 rfl) rfl) ?_
  refine XO.gcallF rfl rfl Tryz.call138 rfl (fun g21 => .c (lzv g21 rfl) (.c rfl .n)) rfl (fun g21 p21 => containsFuncG vg hg b.gens 139 [] [] (fun x => !genOk x) Tryz.call139 (fun x hx => check2 x)) ?_
  refine XO.q (Q.or rfl (fun hp => lzv hp rfl)) ?_
  refine XO.q (Q.assign rfl) (XO.done ?_)
  refine XK.if rfl (fun c1 => ?_) (fun c1 => ?_)
  ·skip
   refine XK.seq (XK.region rfl (XO.q (Q.assign rfl) (XO.done ?_)))
   refine XK.rt [] Tryz.func77 Tryz.results77 (.t rfl .n) ?_
   exact ⟨by rw [bcheck, if_neg (by omega), if_pos (by simpa using c1)], rfl⟩
  ·skip
   refine XK.skip ?_
   refine XK.inBlock ?_
   refine XK.seq (XK.region rfl (XO.q (Q.assign rfl) (XO.done ?_)))
   refine XK.rt [] Tryz.func77 Tryz.results77 (.t rfl .n) ?_
   exact ⟨by rw [bcheck, if_neg (by omega), if_neg (by simpa using c1)], rfl⟩
end Go.X.Bk

set_option linter.unusedSimpArgs false
set_option linter.unusedVariables false
set_option maxRecDepth 20000
namespace Go.X.Bk
open Go.Proofs
theorem mul_le {a b m n : Int} (h1 : 0 ≤ a) (h2 : a ≤ m) (h3 : 0 ≤ b) (h4 : b ≤ n) : 0 ≤ a * b ∧ a * b ≤ m * n :=
 ⟨Int.mul_nonneg h1 h3, Int.mul_le_mul h2 h4 h3 (by omega)⟩
theorem start_spec (g : BGen) (gk : GenOk g) (f : Int) (hf : 0 ≤ f) (hf1 : f ≤ g.tries) : Spec Tryz.prog 175 #[genV g, .int .i64 f] [] [] (fun v hs => v = .int .i64 (startP g f) ∧ hs = []) := by
 have q1 := gk.t1
 have m1 := mul_le (a := f + 1) (b := g.delay) (m := 6) (n := 3600) (by omega) (by omega) gk.d0 gk.d1
 have m2 := mul_le (a := f) (b := g.pause) (m := 5) (n := 3600) (by omega) (by omega) gk.q0 gk.q1
 refine Spec.intro (fn := Tryz.f175) (N := 19) Tryz.func175 rfl Tryz.ntmps175 rfl fun B => ?_
 refine XK.seq (XK.region rfl ?_)
 refine XO.box rfl fun b2 => ?_
 refine XO.q (Q.assign rfl) (XO.done (XK.seq (XK.seq (XK.region rfl (XO.q (Q.move rfl) ?_)))))
 refine XO.q (Q.fieldAddr rfl) ?_
 refine XO.q (Q.ld rfl rfl) ?_
 refine XO.q (Q.eql rfl rfl) ?_
 refine XO.done ?_
 refine XK.if rfl (fun c0 => ?_) (fun c0 => ?_)
 ·skip
  refine XK.seq (XK.region rfl (XO.q (Q.assign rfl) (XO.done ?_)))
  refine XK.rt [] Tryz.func175 Tryz.results175 (.t rfl .n) ?_
  exact ⟨by rw [startP, if_pos c0], rfl⟩
 ·skip
  refine XK.skip (XK.seq (XK.region rfl (XO.q (Q.move rfl) ?_)))
  refine XO.q (Q.add rfl rfl ⟨by omega, by omega⟩) ?_
  refine XO.q (Q.fieldAddr rfl) ?_
  refine XO.q (Q.ld rfl rfl) ?_
  refine XO.q (Q.mul rfl rfl ⟨by omega, by omega⟩) ?_
  refine XO.q (Q.move rfl) ?_
  refine XO.q (Q.fieldAddr rfl) ?_
  refine XO.q (Q.ld rfl rfl) ?_
  refine XO.q (Q.mul rfl rfl ⟨by omega, by omega⟩) ?_
  refine XO.q (Q.add rfl rfl ⟨by omega, by omega⟩) ?_
  refine XO.q (Q.assign rfl) (XO.done ?_)
  refine XK.rt [] Tryz.func175 Tryz.results175 (.t rfl .n) ?_
  exact ⟨by rw [startP, if_neg c0], rfl⟩
theorem loaded_spec (l : List BSpan) (vl : Value) (hl : PHeap) [il : Arr vl encSpan 2 hl l] : Spec Tryz.prog 129 #[vl] [] [hl] (fun v hs => v = .tuple #[.int .i64 (loadedP l).1, .int .i64 (loadedP l).2] ∧ hs = []) := by
 have ll := il.le
 refine Spec.intro (fn := Tryz.f129) (N := 39) Tryz.func129 rfl Tryz.ntmps129 rfl fun B => ?_
 refine XK.seq (XK.region rfl (XO.q (Q.assign rfl) (XO.q (Q.assign rfl) (XO.done (XK.seq ?_)))))
 refine XK.seq (XK.region rfl (XO.q (Q.move rfl) ?_))
 refine XO.len rfl fun l8 => ?_
 refine XO.q (Q.gtr rfl rfl) ?_
 refine XO.done ?_
 refine XK.if rfl (fun c0 => ?_) (fun c0 => ?_)
 ·skip
  refine XK.seq (XK.region rfl (XO.q (Q.assign rfl) (XO.q (Q.assign rfl) (XO.done ?_))))
  refine XK.rt [] Tryz.func129 Tryz.results129 (.t rfl (.t rfl .n)) ?_
  exact ⟨by rw [loadedP, if_pos (by omega)], rfl⟩
 ·skip
  refine XK.skip (XK.seq (XK.region rfl (XO.q (Q.assign rfl) (XO.done (XK.seq ?_)))))
  refine XK.seq (XK.region rfl (XO.q (Q.move rfl) ?_))
  refine XO.len rfl fun l11 => ?_
  refine XO.q (Q.move rfl) (XO.done (XK.block ?_))
  refine XK.while (X := Nat) [2, 3, 4, 6, 12, 13, 14, 15, 16, 17, 18, 19, 20, 21, 22, 23, 24, 25, 26, 27, 28, 29, 30, 31, 32, 33, 34, 35] (fun i => [(4, some (.int .i64 (secs l i))), (12, some (.int .i64 (i : Nat)))]) (fun i => []) (fun i => i ≤ l.length ∧ i ≤ 64 ∧ (l.take i).any badSpan = false ∧ 0 ≤ secs l i ∧ secs l i ≤ 3600 * i) (fun i => l.length - i) (0) [] rfl ⟨by omega, by omega, rfl, by simp [secs], by simp [secs]⟩ (.c rfl (.c rfl (.base 0 rfl rfl))) ?_
  rintro i ⟨hi, hi2, ha, hs0, hs1⟩ ih0
  dsimp only [lcA, lnA] at ih0 ⊢
  refine XK.seq (XK.region rfl ?_)
  refine XO.q (Q.lss rfl rfl) ?_
  refine XO.done (XK.seq ?_)
  refine XK.if rfl (fun c1 => ?_) (fun c1 => ?_)
  ·skip
   refine XK.skip (XK.seq (XK.block (XK.seq (XK.region rfl ?_))))
   refine XO.ix rfl rfl (by omega) (by omega) fun i14 => ?_
   refine XO.q (Q.ldEA [_, _] rfl (by first | assumption | omega) rfl rfl) ?_
   refine XO.alloc fun b6 => ?_
   refine XO.st rfl rfl rfl ?_
   refine XO.done (XK.seq (XK.seq (XK.region rfl ?_)))
   refine XO.q (Q.fieldAddr rfl) ?_
   refine XO.q (Q.ld rfl rfl) ?_
   refine XO.q (Q.lss rfl rfl) ?_
   refine XO.q (Q.move rfl) ?_
   refine XO.q (Quiet.guardF rfl rfl fun g20 p20 => Q.fieldAddr rfl) ?_
   refine XO.q (Quiet.guardF rfl rfl fun g21 p21 => Q.ld (lzv g21 rfl) rfl) ?_
   refine XO.q (Quiet.guardF rfl rfl fun g22 p22 => Q.gtr (lzv g22 rfl) rfl) ?_
   refine XO.q (Q.or rfl (fun hp => lzv hp rfl)) ?_
   refine XO.q (Q.move rfl) ?_
   refine XO.q (Quiet.guardF rfl rfl fun g25 p25 => Q.fieldAddr rfl) ?_
   refine XO.q (Quiet.guardF rfl rfl fun g26 p26 => Q.ld (lzv g26 rfl) rfl) ?_
   refine XO.lit1 [_] [_] [(l.getD i default).power] encI rfl rfl (by rfl) (by rfl) rfl (by rfl) (fun g27 => by exact .c 0 1 (lzv g27 rfl) rfl rfl (.n _)) (fun _ => rfl) (by rfl) rfl (fun _ => by infer_instance) rfl (fun v27 h27 O27 => ?_)
   refine XO.gcallF rfl rfl Tryz.call78 rfl (fun g28 => .c rfl (.c (lzv g28 rfl) .n)) rfl (fun g28 p28 => by haveI := O27 g28; exact within_spec 1000000 v27 h27 [(l.getD i default).power]) ?_
   refine XO.q (Quiet.guardF rfl rfl fun g29 p29 => Q.not (lzv g29 rfl)) ?_
   refine XO.q (Q.or rfl (fun hp => lzv hp rfl)) ?_
   refine XO.done ?_
   refine XK.if rfl (fun c2 => ?_) (fun c2 => ?_)
   ·skip
    refine XK.seq (XK.region rfl (XO.q (Q.assign rfl) (XO.q (Q.assign rfl) (XO.done ?_))))
    refine XK.rt [] Tryz.func129 Tryz.results129 (.t rfl (.t rfl .n)) ?_
    have hb : badSpan (l.getD i default) = true := by simpa [badSpan, or_assoc] using c2
    exact ⟨by rw [loadedP, if_neg (by omega), if_pos (List.any_eq_true.2 ⟨_, getD_mem (by omega), hb⟩)], rfl⟩
   ·skip
    have bs : badSpan (l.getD i default) = false := by
     rw [Bool.eq_false_iff]
     exact fun hh => c2 (by simpa [badSpan, or_assoc] using hh)
    have bt := badSpan_false.1 bs
    refine XK.skip (XK.region rfl (XO.q (Q.move rfl) ?_))
    refine XO.q (Q.fieldAddr rfl) ?_
    refine XO.q (Q.ld rfl rfl) ?_
    refine XO.q (Q.add rfl rfl ⟨by omega, by omega⟩) ?_
    refine XO.q (Q.assign rfl) (XO.done ?_)
    refine XK.inBlock ?_
    refine XK.region rfl ?_
    refine XO.q (Q.add rfl rfl ⟨by omega, by omega⟩) ?_
    refine XO.q (Q.move rfl) (XO.done ?_)
    exact ih0 (i + 1) _ _ ⟨by omega, by omega, any_step ha (by omega) bs, by rw [secs]; omega, by rw [secs]; omega⟩ (by first | omega | (dsimp only; omega)) (.c rfl (.c rfl (.base 56 rfl rfl))) inferInstance
  ·skip
   refine XK.exit rfl ?_
   refine XK.seq (XK.seq (XK.region rfl (XO.q (Q.move rfl) ?_)))
   refine XO.q (Q.gtr rfl rfl) ?_
   refine XO.done ?_
   refine XK.if rfl (fun c3 => ?_) (fun c3 => ?_)
   ·skip
    refine XK.seq (XK.region rfl (XO.q (Q.assign rfl) (XO.q (Q.assign rfl) (XO.done ?_))))
    refine XK.rt [] Tryz.func129 Tryz.results129 (.t rfl (.t rfl .n)) ?_
    have hil : i = l.length := by omega
    subst hil
    rw [List.take_length] at ha
    exact ⟨by rw [loadedP, if_neg (by omega), if_neg (by rw [ha]; decide), if_pos (by omega)], rfl⟩
   ·skip
    refine XK.skip (XK.seq (XK.region rfl (XO.q (Q.move rfl) (XO.q (Q.assign rfl) (XO.q (Q.assign rfl) ?_)))))
    refine XO.done ?_
    refine XK.rt [] Tryz.func129 Tryz.results129 (.t rfl (.t rfl .n)) ?_
    have hil : i = l.length := by omega
    subst hil
    rw [List.take_length] at ha
    exact ⟨by rw [loadedP, if_neg (by omega), if_neg (by rw [ha]; decide), if_neg (by omega)], rfl⟩
theorem fit_spec (b : BBank) (vb vg : Value) (hb hg : PHeap) [ib : Arr vb encBat 4 hb b.bats] [ig : Arr vg encGen 5 hg b.gens] (fs : List Int) (vf : Value) (hf : PHeap) [jf : Arr vf encI 1 hf fs] : Spec Tryz.prog 130 #[.agg #[vb, vg], vf] [] [hb, hg, hf] (fun v hs => v = .bool (fitP b fs) ∧ hs = []) := by
 have lg := ig.le
 have lf := jf.le
 refine Spec.intro (fn := Tryz.f130) (N := 36) Tryz.func130 rfl Tryz.ntmps130 rfl fun B => ?_
 refine XK.seq (XK.region rfl ?_)
 refine XO.box rfl fun b2 => ?_
 refine XO.q (Q.assign rfl) (XO.done (XK.seq (XK.seq (XK.region rfl (XO.q (Q.move rfl) ?_)))))
 refine XO.len rfl fun l8 => ?_
 refine XO.q (Q.fieldAddr rfl) ?_
 refine XO.q (Q.ld rfl rfl) ?_
 refine XO.len rfl fun l11 => ?_
 refine XO.q (Q.neq rfl rfl) ?_
 refine XO.done ?_
 refine XK.if rfl (fun c0 => ?_) (fun c0 => ?_)
 ·skip
  refine XK.seq (XK.region rfl (XO.q (Q.assign rfl) (XO.done ?_)))
  refine XK.rt [] Tryz.func130 Tryz.results130 (.t rfl .n) ?_
  exact ⟨by rw [fitP, decide_eq_false (by omega)]; rfl, rfl⟩
 ·skip
  refine XK.skip (XK.seq (XK.seq (XK.region rfl ?_)))
  refine XO.q (Q.fieldAddr rfl) ?_
  refine XO.q (Q.ld rfl rfl) ?_
  refine XO.len rfl fun l15 => ?_
  refine XO.q (Q.move rfl) (XO.done (XK.block ?_))
  refine XK.while (X := Nat) [4, 5, 6, 16, 17, 18, 19, 20, 21, 22, 23, 24, 25, 26, 27, 28, 29, 30, 31, 32, 33, 34, 35] (fun i => [(16, some (.int .i64 (i : Nat)))]) (fun i => []) (fun i => i ≤ b.gens.length ∧ allTo (fun i => !badFail b fs i) i = true) (fun i => b.gens.length - i) (0) [] rfl ⟨by omega, rfl⟩ (.c rfl (.base 0 rfl rfl)) ?_
  rintro i ⟨hi, ha⟩ ih0
  dsimp only [lcA, lnA] at ih0 ⊢
  refine XK.seq (XK.region rfl ?_)
  refine XO.q (Q.lss rfl rfl) ?_
  refine XO.done (XK.seq ?_)
  refine XK.if rfl (fun c1 => ?_) (fun c1 => ?_)
  ·skip
   refine XK.skip (XK.seq (XK.block (XK.seq (XK.region rfl (XO.q (Q.move rfl) ?_)))))
   refine XO.ix rfl rfl (by omega) (by omega) fun i19 => ?_
   refine XO.q (Q.ldEA [_, _, _, _, _] rfl (by first | assumption | omega) rfl rfl) ?_
   refine XO.alloc fun b6 => ?_
   refine XO.q (Q.assign rfl) ?_
   refine XO.st rfl rfl rfl ?_
   refine XO.done (XK.seq ?_)
   refine XK.drawn [0, 1, 2, 3, 4, 5, 6, 7, 8, 9, 10, 11, 12, 13] [b6] [] (.q 0 (.q 1 (.q 2 (.q 3 (.q 4 (.q 5 (.q 6 (.q 7 (.q 8 (.q 9 (.q 10 (.q 11 (.q 12 (.q 13 .done)))))))))))))) Tryz.mixed rfl (by kernel_rfl) ?_
   refine XT.q rfl rfl (Q.move rfl) ?_
   refine XT.q rfl rfl (Q.move rfl) ?_
   refine XT.ix rfl rfl rfl rfl (by omega) (by omega) fun i23 => ?_
   refine XT.q rfl rfl (Q.ldE rfl (by first | assumption | omega) rfl) ?_
   refine XT.q rfl rfl (Q.lss rfl rfl) ?_
   refine XT.q rfl rfl (Q.move rfl) ?_
   refine XT.q rfl rfl (Quiet.guardF rfl rfl fun g27 p27 => Q.move rfl) ?_
   refine XT.q rfl rfl (Quiet.guardF rfl rfl fun g28 p28 => Q.move rfl) ?_
   refine XT.q rfl rfl (Quiet.guardF rfl rfl fun g29 p29 => Q.ix (lzv g29 rfl) (lzv g29 rfl) (by omega) (by omega)) ?_
   refine XT.q rfl rfl (Quiet.guardF rfl rfl fun g30 p30 => Q.ldE (lzv g30 rfl) (by first | assumption | omega) rfl) ?_
   refine XT.q rfl rfl (Quiet.guardF rfl rfl fun g31 p31 => Q.fieldAddr rfl) ?_
   refine XT.q rfl rfl (Quiet.guardF rfl rfl fun g32 p32 => Q.ld (lzv g32 rfl) rfl) ?_
   refine XT.q rfl rfl (Quiet.guardF rfl rfl fun g33 p33 => Q.gtr (lzv g33 rfl) (lzv g33 rfl)) ?_
   refine XT.q rfl rfl (Q.or rfl (fun hp => lzv hp rfl)) ?_
   refine XT.done ?_
   refine XK.if rfl (fun c2 => ?_) (fun c2 => ?_)
   ·skip
    refine XK.seq (XK.region rfl (XO.q (Q.assign rfl) (XO.done ?_)))
    refine XK.rt [] Tryz.func130 Tryz.results130 (.t rfl .n) ?_
    have hb : badFail b fs i = true := by simpa [badFail] using c2
    exact ⟨by rw [fitP, allTo_false (s := i) (by omega) (by rw [hb]; rfl), Bool.and_false], rfl⟩
   ·skip
    refine XK.skip ?_
    refine XK.inBlock ?_
    refine XK.region rfl ?_
    refine XO.q (Q.add rfl rfl ⟨by omega, by omega⟩) ?_
    refine XO.q (Q.move rfl) (XO.done ?_)
    exact ih0 (i + 1) _ _ ⟨by omega, by rw [allTo_succ, ha, Bool.true_and, Bool.not_eq_true', Bool.eq_false_iff]; exact fun hh => c2 (by simpa [badFail] using hh)⟩ (by first | omega | (dsimp only; omega)) (.c rfl (.base 46 rfl rfl)) inferInstance
  ·skip
   refine XK.exit rfl ?_
   refine XK.seq (XK.region rfl (XO.q (Q.assign rfl) (XO.done ?_)))
   refine XK.rt [] Tryz.func130 Tryz.results130 (.t rfl .n) ?_
   have hil : i = b.gens.length := by omega
   subst hil
   exact ⟨by rw [fitP, ha, decide_eq_true (by omega)]; rfl, rfl⟩
theorem ready_spec (b : BBank) (vb vg : Value) (hb hg : PHeap) [ib : Arr vb encBat 4 hb b.bats] [ig : Arr vg encGen 5 hg b.gens] (l : List BSpan) (vl : Value) (hl : PHeap) [il : Arr vl encSpan 2 hl l] (fs : List Int) (vf : Value) (hf : PHeap) [jf : Arr vf encI 1 hf fs] : Spec Tryz.prog 75 #[.agg #[vb, vg], vl, vf] [] [hb, hg, hl, hf] (fun v hs => v = .int .i64 (readyP b l fs) ∧ hs = []) := by
 refine Spec.intro (fn := Tryz.f75) (N := 27) Tryz.func75 rfl Tryz.ntmps75 rfl fun B => ?_
 refine XK.seq (XK.region rfl ?_)
 refine XO.box rfl fun b3 => ?_
 refine XO.q (Q.assign rfl) (XO.done (XK.seq (XK.seq (XK.region rfl ?_))))
 refine XO.q (Q.ldA [_, _] rfl rfl rfl) ?_
 refine XO.call Tryz.call77 rfl rfl rfl (Check_spec b vb vg hb hg) fun v11 s11 R11 => ?_
 obtain ⟨rfl, rfl⟩ := R11
 dsimp only [lcA, lnA]
 refine XO.q (Q.assign rfl) (XO.done (XK.seq (XK.region rfl (XO.q (Q.move rfl) ?_))))
 refine XO.q (Q.neq rfl rfl) ?_
 refine XO.done ?_
 refine XK.if rfl (fun c0 => ?_) (fun c0 => ?_)
 ·skip
  refine XK.seq (XK.region rfl (XO.q (Q.move rfl) (XO.q (Q.assign rfl) (XO.done ?_))))
  refine XK.rt [] Tryz.func75 Tryz.results75 (.t rfl .n) ?_
  exact ⟨by rw [readyP, if_pos c0], rfl⟩
 ·skip
  refine XK.skip (XK.seq (XK.seq (XK.region rfl (XO.q (Q.move rfl) ?_))))
  refine XO.call Tryz.call129 rfl rfl rfl (loaded_spec l vl hl) fun v17 s17 R17 => ?_
  obtain ⟨rfl, rfl⟩ := R17
  dsimp only [lcA, lnA]
  refine XO.q (Q.move rfl) ?_
  refine XO.q (Q.extract rfl rfl) ?_
  refine XO.q (Q.extract rfl rfl) ?_
  refine XO.q (Q.assign rfl) (XO.q (Q.assign rfl) (XO.done (XK.seq (XK.region rfl (XO.q (Q.move rfl) ?_)))))
  refine XO.q (Q.neq rfl rfl) ?_
  refine XO.done ?_
  refine XK.if rfl (fun c1 => ?_) (fun c1 => ?_)
  ·skip
   refine XK.seq (XK.region rfl (XO.q (Q.move rfl) (XO.q (Q.assign rfl) (XO.done ?_))))
   refine XK.rt [] Tryz.func75 Tryz.results75 (.t rfl .n) ?_
   exact ⟨by rw [readyP, if_neg c0, if_pos c1], rfl⟩
  ·skip
   refine XK.skip (XK.seq (XK.seq (XK.region rfl ?_)))
   refine XO.q (Q.ldA [_, _] rfl rfl rfl) ?_
   refine XO.q (Q.move rfl) ?_
   refine XO.call Tryz.call130 rfl rfl rfl (fit_spec b vb vg hb hg fs vf hf) fun v25 s25 R25 => ?_
   obtain ⟨rfl, rfl⟩ := R25
   dsimp only [lcA, lnA]
   refine XO.q (Q.not rfl) ?_
   refine XO.done ?_
   refine XK.if rfl (fun c2 => ?_) (fun c2 => ?_)
   ·skip
    refine XK.seq (XK.region rfl (XO.q (Q.assign rfl) (XO.done ?_)))
    refine XK.rt [] Tryz.func75 Tryz.results75 (.t rfl .n) ?_
    exact ⟨by rw [readyP, if_neg c0, if_neg c1, if_pos (by simpa using c2)], rfl⟩
   ·skip
    refine XK.skip (XK.seq (XK.region rfl (XO.q (Q.assign rfl) (XO.done ?_))))
    refine XK.rt [] Tryz.func75 Tryz.results75 (.t rfl .n) ?_
    exact ⟨by rw [readyP, if_neg c0, if_neg c1, if_neg (by simpa using c2)], rfl⟩
end Go.X.Bk

set_option linter.unusedSimpArgs false
set_option linter.unusedVariables false
set_option maxRecDepth 20000
namespace Go.X.Bk
open Go.Proofs
theorem can_spec (p : Nat) (vb vg vs vc vn : Value) [ob : One vb] [oc : One vc] [on : One vn] (sv : Int) (gens : List BGen) (sts : List Int) (pk : PlayOk gens sts) (hg hs : PHeap) [ig : Arr vg encGen 5 hg gens] [is : Arr vs encI 1 hs sts] (i : Nat) (hi : i < sts.length) (t : Int) (ht0 : 0 ≤ t) (ht : t ≤ 20000) :
  Spec Tryz.prog 179 #[ptr p 0, .int .i64 (i : Nat), .int .i64 t] [] [blk p [vb, vg, vs, vc, vn, .int .i64 (sv)] 282, hg, hs] (fun v hs => v = .int .i64 (canAt gens sts t i) ∧ hs = []) := by
 have lg := ig.le
 have ls := is.le
 have hn := pk.n
 have hs1 := pk.s i hi
 have gk := pk.g _ (getD_memB (show i < gens.length by omega))
 have gr0 := gk.r0
 have gr1 := gk.r1
 refine Spec.intro (fn := Tryz.f179) (N := 41) Tryz.func179 rfl Tryz.ntmps179 rfl fun B => ?_
 refine XK.seq (XK.region rfl (XO.q (Q.assign rfl) (XO.done (XK.seq ?_))))
 refine XK.drawn [0, 1, 2, 3, 4, 5, 6, 7, 8, 9, 10, 11, 12, 13, 14, 17] [p] [] (.q 0 (.q 1 (.q 2 (.q 3 (.q 4 (.q 5 (.q 6 (.q 7 (.q 8 (.q 9 (.q 10 (.q 11 (.q 12 (.q 13 (.q 14 (.br 15 true (.br 16 true (.q 17 .done) .stop) .stop)))))))))))))))) Tryz.mixed rfl (by kernel_rfl) ?_
 refine XT.q rfl rfl (Q.move rfl) ?_
 refine XT.q rfl rfl (Q.nilCheck rfl) ?_
 refine XT.q rfl rfl (Q.fieldAddr rfl) ?_
 refine XT.q rfl rfl (Q.fieldAddr rfl) ?_
 refine XT.q rfl rfl (Q.ld rfl rfl) ?_
 refine XT.q rfl rfl (Q.move rfl) ?_
 refine XT.ix rfl rfl rfl rfl (by omega) (by omega) fun i15 => ?_
 refine XT.q rfl rfl (Q.ldEA [_, _, _, _, _] rfl (by first | assumption | omega) rfl rfl) ?_
 refine XT.q rfl rfl (Q.move rfl) ?_
 refine XT.q rfl rfl (Q.nilCheck rfl) ?_
 refine XT.q rfl rfl (Q.fieldAddr rfl) ?_
 refine XT.q rfl rfl (Q.ld rfl rfl) ?_
 refine XT.q rfl rfl (Q.move rfl) ?_
 refine XT.ix rfl rfl rfl rfl (by omega) (by omega) fun i22 => ?_
 refine XT.q rfl rfl (Q.ldE rfl (by first | assumption | omega) rfl) ?_
 refine XT.alloc rfl rfl (fun b7 => ⟨inferInstance, ?_⟩) XT.stop
 refine XT.st rfl rfl rfl rfl rfl ⟨inferInstance, ?_⟩ XT.stop
 refine XT.q rfl rfl (Q.assign rfl) ?_
 refine XT.done ?_
 refine XK.seq (XK.seq (XK.region rfl (XO.q (Q.move rfl) ?_)))
 refine XO.q (Q.lss rfl rfl) ?_
 refine XO.q (Q.move rfl) ?_
 refine XO.q (Quiet.guardF rfl rfl fun g27 p27 => Q.move rfl) ?_
 refine XO.q (Quiet.guardF rfl rfl fun g28 p28 => Q.move rfl) ?_
 refine XO.q (Quiet.guardF rfl rfl fun g29 p29 => Q.lss (lzv g29 rfl) (lzv g29 rfl)) ?_
 refine XO.q (Q.or rfl (fun hp => lzv hp rfl)) ?_
 refine XO.done ?_
 refine XK.if rfl (fun c0 => ?_) (fun c0 => ?_)
 ·skip
  refine XK.seq (XK.region rfl (XO.q (Q.assign rfl) (XO.done ?_)))
  refine XK.rt [] Tryz.func179 Tryz.results179 (.t rfl .n) ?_
  exact ⟨by rw [canAt, canP, if_pos c0], rfl⟩
 ·skip
  refine XK.skip (XK.seq (XK.region rfl ?_))
  refine XO.q (Q.fieldAddr rfl) ?_
  refine XO.q (Q.ld rfl rfl) ?_
  refine XO.q (Q.fieldAddr rfl) ?_
  refine XO.q (Q.ld rfl rfl) ?_
  refine XO.q (Q.move rfl) (XO.q (Q.move rfl) ?_)
  refine XO.q (Q.sub rfl rfl ⟨by omega, by omega⟩) ?_
  have m := mulLe (a := (gens.getD i default).ramp) (b := t - sts.getD i default + 1) (m := 1000000) (n := 20002) gk.r0 gk.r1 (by omega) (by omega)
  refine XO.q (Q.add rfl rfl ⟨by omega, by omega⟩) ?_
  refine XO.q (Q.mul rfl rfl ⟨by omega, by omega⟩) ?_
  refine XO.q (Q.min rfl rfl) ?_
  refine XO.q (Q.assign rfl) (XO.done ?_)
  refine XK.rt [] Tryz.func179 Tryz.results179 (.t rfl .n) ?_
  exact ⟨by rw [canAt, canP, if_neg c0], rfl⟩
theorem generate_spec (p : Nat) (vb vg vs vc vn : Value) [ob : One vb] [oc : One vc] [on : One vn] (sv : Int) (gens : List BGen) (sts : List Int) (pk : PlayOk gens sts) (hg hs : PHeap) [ig : Arr vg encGen 5 hg gens] [is : Arr vs encI 1 hs sts] (t : Int) (ht0 : 0 ≤ t) (ht : t ≤ 20000) (need : Int) (hn0 : 0 ≤ need) (hn1 : need ≤ 6000000) (vu : Value) (hu : PHeap) (us : List Int) [iu : OArr vu encI 1 3 hu us] (uk : UsedOk (canAt gens sts t) sts.length us) :
  Spec Tryz.prog 177 #[ptr p 0, .int .i64 t, .int .i64 need, vu] [hu] [blk p [vb, vg, vs, vc, vn, .int .i64 (sv)] 282, hg, hs] (fun v hs' => ∃ h', v = .int .i64 (genTo (canAt gens sts t) us need sts.length).2 ∧ hs' = [h'] ∧ OArr vu encI 1 3 h' (genTo (canAt gens sts t) us need sts.length).1) := by
 have ls := is.le
 have hall := fun i hi => genTo_ok uk hn0 i hi
 have hcan := fun j hj => canAt_ok (i := j) pk ht hj
 refine Spec.intro (fn := Tryz.f177) (N := 42) Tryz.func177 rfl Tryz.ntmps177 rfl fun B => ?_
 refine XK.seq (XK.region rfl (XO.q (Q.assign rfl) (XO.done (XK.seq (XK.seq ?_)))))
 refine XK.region rfl (XO.q (Q.move rfl) ?_)
 refine XO.q (Q.nilCheck rfl) ?_
 refine XO.q (Q.fieldAddr rfl) ?_
 refine XO.q (Q.ld rfl rfl) ?_
 refine XO.len rfl fun l15 => ?_
 refine XO.q (Q.move rfl) (XO.done (XK.block ?_))
 refine XK.while (X := Nat × PHeap) [2, 9, 10, 16, 17, 18, 19, 20, 21, 22, 23, 24, 25, 26, 27, 28, 29, 30, 31, 32, 33, 34, 35, 36, 37, 38, 39, 40] (fun ⟨i, ku⟩ => [(2, some (.int .i64 ((genTo (canAt gens sts t) us need (i)).2))), (16, some (.int .i64 (i : Nat)))]) (fun ⟨i, ku⟩ => [ku]) (fun ⟨i, ku⟩ => i ≤ sts.length ∧ OArr vu encI 1 3 ku (genTo (canAt gens sts t) us need (i)).1) (fun ⟨i, ku⟩ => sts.length - i) (0, hu) [hu] rfl ⟨by omega, iu⟩ (.c rfl (.c rfl (.base 0 rfl rfl))) ?_
 rintro ⟨i, ku⟩ ⟨hi, OU⟩ ih0
 dsimp only [lcA, lnA] at ih0 ⊢
 obtain ⟨uk1, un0, un1⟩ := hall i hi
 have ul := uk1.len
 refine XK.seq (XK.region rfl ?_)
 refine XO.q (Q.lss rfl rfl) ?_
 refine XO.done (XK.seq ?_)
 refine XK.if rfl (fun c0 => ?_) (fun c0 => ?_)
 ·skip
  have ub := uk1.b i (by omega)
  have cb := hcan i (by omega)
  refine XK.skip (XK.seq (XK.block (XK.seq (XK.region rfl (XO.q (Q.move rfl) ?_)))))
  refine XO.q (Q.assign rfl) (XO.done (XK.seq ?_))
  refine XK.drawn [0, 1, 2, 3, 5, 6, 7, 8, 9, 10, 11] [] [ku] (.q 0 (.q 1 (.q 2 (.q 3 (.q 5 (.q 6 (.q 7 (.q 8 (.br 4 true (.q 9 (.q 10 (.q 11 .done))) .stop))))))))) Tryz.mixed rfl (by kernel_rfl) ?_
  refine XT.q rfl rfl (Q.move rfl) ?_
  refine XT.q rfl rfl (Q.move rfl) ?_
  refine XT.q rfl rfl (Q.move rfl) ?_
  refine XT.q rfl rfl (Q.move rfl) ?_
  refine XT.q rfl rfl (Q.move rfl) ?_
  refine XT.q rfl rfl (Q.move rfl) ?_
  refine XT.ix rfl rfl rfl rfl (by omega) (by omega) fun i26 => ?_
  refine XT.q rfl rfl (Q.ldE rfl (by first | assumption | omega) rfl) ?_
  refine XT.call rfl rfl Tryz.call179 rfl rfl rfl (can_spec p vb vg vs vc vn sv gens sts pk hg hs i (by omega) t ht0 ht) (fun v23 s23 R23 => ?_) XT.stop
  obtain ⟨rfl, rfl⟩ := R23
  dsimp only [lcA, lnA]
  refine ⟨inferInstance, ?_⟩
  refine XT.q rfl rfl (Q.sub rfl rfl ⟨by omega, by omega⟩) ?_
  refine XT.q rfl rfl (Q.min rfl rfl) ?_
  refine XT.q rfl rfl (Q.assign rfl) ?_
  refine XT.done ?_
  refine XK.seq (XK.region rfl (XO.q (Q.move rfl) (XO.q (Q.move rfl) ?_)))
  refine XO.ix rfl rfl (by omega) (by omega) fun i32 => ?_
  refine XO.q (Q.ldE rfl (by first | assumption | omega) rfl) ?_
  refine XO.q (Q.move rfl) ?_
  refine XO.q (Q.add rfl rfl ⟨by omega, by omega⟩) ?_
  refine XO.ix rfl rfl (by omega) (by omega) fun i36 => ?_
  refine XO.stE _ rfl rfl rfl (by assumption) rfl rfl fun h5_7 O5_7 => ?_
  refine XO.done (XK.region rfl (XO.q (Q.move rfl) (XO.q (Q.move rfl) ?_)))
  refine XO.q (Q.sub rfl rfl ⟨by omega, by omega⟩) ?_
  refine XO.q (Q.assign rfl) (XO.done ?_)
  refine XK.inBlock ?_
  refine XK.region rfl ?_
  refine XO.q (Q.add rfl rfl ⟨by omega, by omega⟩) ?_
  refine XO.q (Q.move rfl) (XO.done ?_)
  exact ih0 (i + 1, h5_7) _ _ ⟨by dsimp only; omega, by dsimp only; exact O5_7⟩ (by first | omega | (dsimp only; omega)) (.c rfl (.c rfl (.base 58 rfl rfl))) inferInstance
 ·skip
  have hil : i = sts.length := by omega
  subst hil
  refine XK.exit rfl ?_
  refine XK.seq (XK.region rfl (XO.q (Q.move rfl) (XO.q (Q.assign rfl) (XO.done ?_))))
  refine XK.rt [ku] Tryz.func177 Tryz.results177 (.t rfl .n) ?_
  exact ⟨ku, rfl, rfl, OU⟩
theorem give_spec (v : Value) (h : PHeap) (cs : List BCell) [ic : OArr v encCell 5 329 h cs] (i : Nat) (hi : i < cs.length) (ck : CellOk (cs.getD i default)) (need : Int) (hn0 : 0 ≤ need) (hn1 : need ≤ 6000000) :
  Spec Tryz.prog 178 #[pat v 5 i 0, .int .i64 need] [h] [] (fun v' hs => ∃ h', v' = .int .i64 (giveC (cs.getD i default) need) ∧ hs = [h'] ∧ OArr v encCell 5 329 h' (cs.set i { bat := (cs.getD i default).bat, now := (cs.getD i default).now - giveC (cs.getD i default) need })) := by
 have g := giveC_ok ck hn0
 have n0 := ck.n0
 have nf := ck.nf
 have f1 := ck.f1
 unfold giveC at g
 refine Spec.intro (fn := Tryz.f178) (N := 26) Tryz.func178 rfl Tryz.ntmps178 rfl fun B => ?_
 refine XK.seq (XK.region rfl (XO.q (Q.assign rfl) (XO.done (XK.seq ?_))))
 refine XK.drawn [0, 1, 2, 3, 4, 5, 6, 7, 8, 9, 10, 11] [] [h] (.q 0 (.q 1 (.q 2 (.q 3 (.q 4 (.q 5 (.q 6 (.q 7 (.q 8 (.q 9 (.q 10 (.q 11 .done)))))))))))) Tryz.mixed rfl (by kernel_rfl) ?_
 refine XT.q rfl rfl (Q.move rfl) ?_
 refine XT.q rfl rfl (Q.nilCheckE rfl (by first | assumption | omega)) ?_
 refine XT.q rfl rfl (Q.fieldQ rfl (by first | assumption | omega)) ?_
 refine XT.q rfl rfl (Q.fieldQ rfl (by first | assumption | omega)) ?_
 refine XT.q rfl rfl (Q.ldE rfl (by first | assumption | omega) rfl) ?_
 refine XT.q rfl rfl (Q.move rfl) ?_
 refine XT.q rfl rfl (Q.nilCheckE rfl (by first | assumption | omega)) ?_
 refine XT.q rfl rfl (Q.fieldQ rfl (by first | assumption | omega)) ?_
 refine XT.q rfl rfl (Q.ldE rfl (by first | assumption | omega) rfl) ?_
 refine XT.q rfl rfl (Q.move rfl) ?_
 refine XT.q rfl rfl (Q.min3 rfl rfl rfl) ?_
 refine XT.q rfl rfl (Q.assign rfl) ?_
 refine XT.done ?_
 refine XK.seq (XK.region rfl (XO.q (Q.move rfl) ?_))
 refine XO.q (Q.nilCheckE rfl (by first | assumption | omega)) ?_
 refine XO.q (Q.fieldQ rfl (by first | assumption | omega)) ?_
 refine XO.q (Q.ldE rfl (by first | assumption | omega) rfl) ?_
 refine XO.q (Q.move rfl) ?_
 refine XO.q (Q.sub rfl rfl ⟨by omega, by omega⟩) ?_
 refine XO.q (Q.nilCheckE rfl (by first | assumption | omega)) ?_
 refine XO.q (Q.fieldQ rfl (by first | assumption | omega)) ?_
 refine XO.stE { bat := (cs.getD i default).bat, now := (cs.getD i default).now - giveC (cs.getD i default) need } rfl rfl rfl (by assumption) rfl rfl fun h2_8 O2_8 => ?_
 refine XO.done (XK.seq (XK.region rfl (XO.q (Q.move rfl) (XO.q (Q.assign rfl) (XO.done ?_)))))
 refine XK.rt [h2_8] Tryz.func178 Tryz.results178 (.t rfl .n) ?_
 exact ⟨h2_8, rfl, rfl, O2_8⟩
theorem take_spec (v : Value) (h : PHeap) (cs : List BCell) [ic : OArr v encCell 5 329 h cs] (i : Nat) (hi : i < cs.length) (ck : CellOk (cs.getD i default)) (need : Int) (hn0 : 0 ≤ need) (hn1 : need ≤ 6000000) :
  Spec Tryz.prog 180 #[pat v 5 i 0, .int .i64 need] [h] [] (fun v' hs => ∃ h', v' = .int .i64 (takeC (cs.getD i default) need) ∧ hs = [h'] ∧ OArr v encCell 5 329 h' (cs.set i { bat := (cs.getD i default).bat, now := (cs.getD i default).now + takeC (cs.getD i default) need })) := by
 have g := takeC_ok ck hn0
 have n0 := ck.n0
 have nf := ck.nf
 have f1 := ck.f1
 unfold takeC at g
 refine Spec.intro (fn := Tryz.f180) (N := 32) Tryz.func180 rfl Tryz.ntmps180 rfl fun B => ?_
 refine XK.seq (XK.region rfl (XO.q (Q.assign rfl) (XO.done (XK.seq ?_))))
 refine XK.drawn [0, 1, 2, 3, 4, 5, 6, 7, 8, 9, 10, 11, 12, 13, 14, 15, 16, 17] [] [h] (.q 0 (.q 1 (.q 2 (.q 3 (.q 4 (.q 5 (.q 6 (.q 7 (.q 8 (.q 9 (.q 10 (.q 11 (.q 12 (.q 13 (.q 14 (.q 15 (.q 16 (.q 17 .done)))))))))))))))))) Tryz.mixed rfl (by kernel_rfl) ?_
 refine XT.q rfl rfl (Q.move rfl) ?_
 refine XT.q rfl rfl (Q.nilCheckE rfl (by first | assumption | omega)) ?_
 refine XT.q rfl rfl (Q.fieldQ rfl (by first | assumption | omega)) ?_
 refine XT.q rfl rfl (Q.fieldQ rfl (by first | assumption | omega)) ?_
 refine XT.q rfl rfl (Q.ldE rfl (by first | assumption | omega) rfl) ?_
 refine XT.q rfl rfl (Q.move rfl) ?_
 refine XT.q rfl rfl (Q.nilCheckE rfl (by first | assumption | omega)) ?_
 refine XT.q rfl rfl (Q.fieldQ rfl (by first | assumption | omega)) ?_
 refine XT.q rfl rfl (Q.fieldQ rfl (by first | assumption | omega)) ?_
 refine XT.q rfl rfl (Q.ldE rfl (by first | assumption | omega) rfl) ?_
 refine XT.q rfl rfl (Q.move rfl) ?_
 refine XT.q rfl rfl (Q.nilCheckE rfl (by first | assumption | omega)) ?_
 refine XT.q rfl rfl (Q.fieldQ rfl (by first | assumption | omega)) ?_
 refine XT.q rfl rfl (Q.ldE rfl (by first | assumption | omega) rfl) ?_
 refine XT.q rfl rfl (Q.sub rfl rfl ⟨by omega, by omega⟩) ?_
 refine XT.q rfl rfl (Q.move rfl) ?_
 refine XT.q rfl rfl (Q.min3 rfl rfl rfl) ?_
 refine XT.q rfl rfl (Q.assign rfl) ?_
 refine XT.done ?_
 refine XK.seq (XK.region rfl (XO.q (Q.move rfl) ?_))
 refine XO.q (Q.nilCheckE rfl (by first | assumption | omega)) ?_
 refine XO.q (Q.fieldQ rfl (by first | assumption | omega)) ?_
 refine XO.q (Q.ldE rfl (by first | assumption | omega) rfl) ?_
 refine XO.q (Q.move rfl) ?_
 refine XO.q (Q.add rfl rfl ⟨by omega, by omega⟩) ?_
 refine XO.q (Q.nilCheckE rfl (by first | assumption | omega)) ?_
 refine XO.q (Q.fieldQ rfl (by first | assumption | omega)) ?_
 refine XO.stE { bat := (cs.getD i default).bat, now := (cs.getD i default).now + takeC (cs.getD i default) need } rfl rfl rfl (by assumption) rfl rfl fun h2_8 O2_8 => ?_
 refine XO.done (XK.seq (XK.region rfl (XO.q (Q.move rfl) (XO.q (Q.assign rfl) (XO.done ?_)))))
 refine XK.rt [h2_8] Tryz.func180 Tryz.results180 (.t rfl .n) ?_
 exact ⟨h2_8, rfl, rfl, O2_8⟩
theorem energies_spec (p : Nat) (vb vg vs vc vn : Value) [ob : One vb] [on : One vn] (sv : Int) [os : One vs] [og : One vg] (hc : PHeap) (cs : List BCell) [ic : Arr vc encCell 5 hc cs] (hl : cs.length ≤ 8) :
  Spec Tryz.prog 134 #[ptr p 0] [] [blk p [vb, vg, vs, vc, vn, .int .i64 (sv)] 282, hc] (fun v hs => ∃ h', hs = [h'] ∧ OArr v encI 1 3 h' (energiesP cs)) := by
 have lc := ic.le
 refine Spec.intro (fn := Tryz.f134) (N := 22) Tryz.func134 rfl Tryz.ntmps134 rfl fun B => ?_
 refine XK.seq (XK.region rfl (XO.q (Q.assign rfl) (XO.done (XK.seq (XK.region rfl ?_)))))
 refine XO.q (Q.assign rfl) (XO.done (XK.seq (XK.seq (XK.region rfl (XO.q (Q.move rfl) ?_)))))
 refine XO.q (Q.nilCheck rfl) ?_
 refine XO.q (Q.fieldAddr rfl) ?_
 refine XO.q (Q.ld rfl rfl) ?_
 refine XO.len rfl fun l10 => ?_
 refine XO.q (Q.move rfl) (XO.done (XK.block ?_))
 refine XK.while (X := Nat × PHeap × Value) [3, 5, 11, 12, 13, 14, 15, 16, 17, 18, 19, 20] (fun ⟨i, ko, vo⟩ => [(3, some (vo)), (11, some (.int .i64 (i : Nat)))]) (fun ⟨i, ko, vo⟩ => [ko]) (fun ⟨i, ko, vo⟩ => i ≤ cs.length ∧ OArr vo encI 1 3 ko (energiesP (cs.take i))) (fun ⟨i, ko, vo⟩ => cs.length - i) (0, emp, .slice none 0 0) [emp] rfl ⟨by omega, OArr.nil (fun _ => rfl)⟩ (.c rfl (.c rfl (.base 0 rfl rfl))) ?_
 rintro ⟨i, ko, vo⟩ ⟨hi, OE⟩ ih0
 dsimp only [lcA, lnA] at ih0 ⊢
 have le : (energiesP (cs.take i)).length = i := by unfold energiesP; rw [List.length_map, List.length_take]; omega
 refine XK.seq (XK.region rfl ?_)
 refine XO.q (Q.lss rfl rfl) ?_
 refine XO.done (XK.seq ?_)
 refine XK.if rfl (fun c0 => ?_) (fun c0 => ?_)
 ·skip
  refine XK.skip (XK.seq (XK.block (XK.seq (XK.region rfl ?_))))
  refine XO.ix rfl rfl (by omega) (by omega) fun i13 => ?_
  refine XO.q (Q.ldEA [_, _, _, _, _] rfl (by first | assumption | omega) rfl rfl) ?_
  refine XO.alloc fun b5 => ?_
  refine XO.st rfl rfl rfl ?_
  refine XO.done (XK.region rfl (XO.q (Q.move rfl) ?_))
  refine XO.q (Q.fieldAddr rfl) ?_
  refine XO.q (Q.ld rfl rfl) ?_
  refine XO.lit [_] [_] [(cs.getD i default).now] encI (by rfl) (by rfl) rfl (by rfl) (by exact .c 0 1 rfl rfl rfl (.n _)) (fun _ => rfl) (by rfl) rfl (by infer_instance) rfl fun v18 h18 O18 => ?_
  refine XO.append rfl rfl rfl rfl (by first | omega | (simp; omega)) fun v19 h19 O19 => ?_
  refine XO.q (Q.assign rfl) (XO.done ?_)
  refine XK.inBlock ?_
  refine XK.region rfl ?_
  refine XO.q (Q.add rfl rfl ⟨by omega, by omega⟩) ?_
  refine XO.q (Q.move rfl) (XO.done ?_)
  exact ih0 (i + 1, h19, v19) _ _ ⟨by dsimp only; omega, by dsimp only; rw [energies_snoc (by omega)]; exact O19⟩ (by first | omega | (dsimp only; omega)) (.c rfl (.c rfl (.base 26 rfl rfl))) inferInstance
 ·skip
  refine XK.exit rfl ?_
  refine XK.seq (XK.region rfl (XO.q (Q.move rfl) (XO.q (Q.assign rfl) (XO.done ?_))))
  refine XK.rt [ko] Tryz.func134 Tryz.results134 (.t rfl .n) ?_
  have hil : i = cs.length := by omega
  subst hil
  rw [List.take_length] at OE
  exact ⟨ko, rfl, OE⟩
end Go.X.Bk

set_option linter.unusedSimpArgs false
set_option linter.unusedVariables false
set_option maxRecDepth 20000
namespace Go.X.Bk
open Go.Proofs
theorem begin_spec (b : BBank) (vb vg : Value) (hb hg : PHeap) [ib : Arr vb encBat 4 hb b.bats] [ig : Arr vg encGen 5 hg b.gens] (fs : List Int) (vf : Value) (hf : PHeap) [jf : Arr vf encI 1 hf fs] (ok : BOk b) (fk : FOk b fs) : Spec Tryz.prog 131 #[.agg #[vb, vg], vf] [] [hb, hg, hf] (fun v hs => ∃ p vs vc vn ks kc kn, v = ptr p 0 ∧ hs = [blk p [vb, vg, vs, vc, vn, .int .i64 0] 282, ks, kc, kn] ∧ OArr vs encI 1 3 ks (startsP b fs) ∧ OArr vc encCell 5 329 kc (begun b).cells ∧ OArr vn encI 1 3 kn (begun b).burnt) := by
 have lb := ib.le
 have lg := ig.le
 have n8 := ok.nb
 have n6 := ok.ng
 have nf := fk.n
 refine Spec.intro (fn := Tryz.f131) (N := 63) Tryz.func131 rfl Tryz.ntmps131 rfl fun B => ?_
 refine XK.seq (XK.region rfl ?_)
 refine XO.box rfl fun b2 => ?_
 refine XO.q (Q.assign rfl) (XO.done (XK.seq ?_))
 refine XK.drawn [0, 1, 2, 3, 5, 7] [b2] [] (.q 0 (.q 1 (.q 2 (.q 3 (.br 4 true (.q 5 (.br 6 true (.q 7 .done) .stop)) .stop))))) Tryz.mixed rfl (by kernel_rfl) ?_
 refine XT.q rfl rfl (Q.ldA [_, _] rfl rfl rfl) ?_
 refine XT.q rfl rfl (Q.fieldAddr rfl) ?_
 refine XT.q rfl rfl (Q.ld rfl rfl) ?_
 refine XT.q rfl rfl (Q.len rfl) ?_
 refine XT.make encI (0) rfl rfl rfl rfl rfl (by omega) (by omega) (fun _ => rfl) rfl rfl rfl (by dsimp only [encI]; infer_instance) (fun v14 h14 O14 => ⟨inferInstance, ?_⟩) XT.stop
 refine XT.q rfl rfl (Q.build [_, _, _, _, _, _] (.c 0 2 rfl rfl rfl (.c 4 1 rfl rfl rfl (.n _)))) ?_
 refine XT.box rfl rfl rfl (fun b16 => ⟨inferInstance, ?_⟩) XT.stop
 refine XT.q rfl rfl (Q.assign rfl) ?_
 refine XT.done ?_
 refine XK.seq (XK.seq (XK.region rfl ?_))
 refine XO.q (Q.fieldAddr rfl) ?_
 refine XO.q (Q.ld rfl rfl) ?_
 refine XO.len rfl fun l19 => ?_
 refine XO.q (Q.move rfl) (XO.done (XK.block ?_))
 refine XK.while (X := Nat × PHeap × Value) [7, 20, 21, 22, 23, 24, 25, 26, 27, 28, 29, 30, 31, 32, 33, 34, 35, 36, 37] (fun ⟨i, kc, vc⟩ => [(20, some (.int .i64 (i : Nat)))]) (fun ⟨i, kc, vc⟩ => [blk b16 [vb, vg, .slice none 0 0, vc, v14, .int .i64 0] 282, kc]) (fun ⟨i, kc, vc⟩ => i ≤ b.bats.length ∧ OArr vc encCell 5 329 kc ((b.bats.take i).map (fun x => ⟨x, x.energy⟩))) (fun ⟨i, kc, vc⟩ => b.bats.length - i) (0, emp, .slice none 0 0) [blk b16 [vb, vg, .slice none 0 0, .slice none 0 0, v14, .int .i64 0] 282, emp] rfl ⟨by omega, OArr.nil (fun _ => rfl)⟩ (.c rfl (.base 0 rfl rfl)) ?_
 rintro ⟨i, kc, vc⟩ ⟨hi, OC⟩ ih0
 dsimp only [lcA, lnA] at ih0 ⊢
 have lc : ((b.bats.take i).map (fun x => (⟨x, x.energy⟩ : BCell))).length = i := by rw [List.length_map, List.length_take]; omega
 refine XK.seq (XK.region rfl ?_)
 refine XO.q (Q.lss rfl rfl) ?_
 refine XO.done (XK.seq ?_)
 refine XK.if rfl (fun c0 => ?_) (fun c0 => ?_)
 ·skip
  refine XK.skip (XK.seq (XK.block (XK.seq (XK.region rfl ?_))))
  refine XO.ix rfl rfl (by omega) (by omega) fun i22 => ?_
  refine XO.q (Q.ldEA [_, _, _, _] rfl (by first | assumption | omega) rfl rfl) ?_
  refine XO.alloc fun b7 => ?_
  refine XO.st rfl rfl rfl ?_
  refine XO.done ?_
  refine XK.drawn [0, 1, 2, 3, 5, 6, 7, 8, 11, 12] [b7] [] (.q 0 (.q 1 (.q 2 (.q 3 (.q 5 (.q 6 (.q 7 (.q 8 (.br 4 true (.br 9 true (.br 10 true (.q 11 (.q 12 (.br 13 true .done .stop))) .stop) .stop) (.br 9 true (.br 4 true (.br 10 true (.q 11 (.q 12 (.br 13 true .done .stop))) .stop) .stop) .stop)))))))))) Tryz.mixed rfl (by kernel_rfl) ?_
  refine XT.q rfl rfl (Q.move rfl) ?_
  refine XT.q rfl rfl (Q.move rfl) ?_
  refine XT.q rfl rfl (Q.nilCheck rfl) ?_
  refine XT.q rfl rfl (Q.fieldAddr rfl) ?_
  refine XT.q rfl rfl (Q.ldA [_, _, _, _] rfl rfl rfl) ?_
  refine XT.q rfl rfl (Q.fieldAddr rfl) ?_
  refine XT.q rfl rfl (Q.ld rfl rfl) ?_
  refine XT.q rfl rfl (Q.build [_, _, _, _, _] (.c 0 4 rfl rfl rfl (.c 4 1 rfl rfl rfl (.n _)))) ?_
  refine XT.qs rfl rfl (Q.ld rfl rfl) ⟨inferInstance, ?_⟩ ?_
  ·skip
   refine XT.lit [_, _, _, _, _] [_, _, _, _, _] [⟨b.bats.getD i default, (b.bats.getD i default).energy⟩] encCell rfl rfl (by rfl) (by rfl) rfl (by rfl) (by exact .c 0 5 rfl rfl rfl (.n _)) (fun _ => rfl) (by rfl) rfl (by infer_instance) rfl (fun v33 h33 O33 => ⟨inferInstance, ?_⟩) XT.stop
   refine XT.append rfl rfl rfl rfl rfl rfl (by first | omega | (simp; omega)) (fun v34 h34 O34 => ⟨inferInstance, ?_⟩) XT.stop
   refine XT.q rfl rfl (Q.nilCheck rfl) ?_
   refine XT.q rfl rfl (Q.fieldAddr rfl) ?_
   refine XT.st rfl rfl rfl rfl rfl ⟨inferInstance, ?_⟩ XT.stop
   refine XT.done ?_
   refine XK.inBlock ?_
   refine XK.region rfl ?_
   refine XO.q (Q.add rfl rfl ⟨by omega, by omega⟩) ?_
   refine XO.q (Q.move rfl) (XO.done ?_)
   exact ih0 (i + 1, h34, v34) _ _ ⟨by dsimp only; omega, by dsimp only; rw [cells_snoc (by omega)]; exact O34⟩ (by first | omega | (dsimp only; omega)) (.c rfl (.base 39 rfl rfl)) inferInstance
  ·skip
   refine XT.lit [_, _, _, _, _] [_, _, _, _, _] [⟨b.bats.getD i default, (b.bats.getD i default).energy⟩] encCell rfl rfl (by rfl) (by rfl) rfl (by rfl) (by exact .c 0 5 rfl rfl rfl (.n _)) (fun _ => rfl) (by rfl) rfl (by infer_instance) rfl (fun v33 h33 O33 => ⟨inferInstance, ?_⟩) XT.stop
   refine XT.qs rfl rfl (Q.ld rfl rfl) ⟨inferInstance, ?_⟩ XT.stop
   refine XT.append rfl rfl rfl rfl rfl rfl (by first | omega | (simp; omega)) (fun v34 h34 O34 => ⟨inferInstance, ?_⟩) XT.stop
   refine XT.q rfl rfl (Q.nilCheck rfl) ?_
   refine XT.q rfl rfl (Q.fieldAddr rfl) ?_
   refine XT.st rfl rfl rfl rfl rfl ⟨inferInstance, ?_⟩ XT.stop
   refine XT.done ?_
   refine XK.inBlock ?_
   refine XK.region rfl ?_
   refine XO.q (Q.add rfl rfl ⟨by omega, by omega⟩) ?_
   refine XO.q (Q.move rfl) (XO.done ?_)
   exact ih0 (i + 1, h34, v34) _ _ ⟨by dsimp only; omega, by dsimp only; rw [cells_snoc (by omega)]; exact O34⟩ (by first | omega | (dsimp only; omega)) (.c rfl (.base 39 rfl rfl)) inferInstance
 ·skip
  have hil : i = b.bats.length := by omega
  subst hil
  rw [List.take_length] at OC
  clear ih0 lc hi c0
  refine XK.exit rfl ?_
  refine XK.seq (XK.seq (XK.region rfl ?_))
  refine XO.q (Q.fieldAddr rfl) ?_
  refine XO.q (Q.ld rfl rfl) ?_
  refine XO.len rfl fun l40 => ?_
  refine XO.q (Q.move rfl) (XO.done (XK.block ?_))
  refine XK.while (X := Nat × PHeap × Value) [8, 9, 41, 42, 43, 44, 45, 46, 47, 48, 49, 50, 51, 52, 53, 54, 55, 56, 57, 58, 59, 60, 61] (fun ⟨i, ks, vs⟩ => [(41, some (.int .i64 (i : Nat)))]) (fun ⟨i, ks, vs⟩ => [blk b16 [vb, vg, vs, vc, v14, .int .i64 0] 282, ks]) (fun ⟨i, ks, vs⟩ => i ≤ b.gens.length ∧ OArr vs encI 1 3 ks (startsTo b.gens fs i)) (fun ⟨i, ks, vs⟩ => b.gens.length - i) (0, emp, .slice none 0 0) [blk b16 [vb, vg, .slice none 0 0, vc, v14, .int .i64 0] 282, emp] rfl ⟨by omega, OArr.nil (fun _ => rfl)⟩ (.c rfl (.base 0 rfl rfl)) ?_
  rintro ⟨i, ks, vs⟩ ⟨hi, OS⟩ ih1
  dsimp only [lcA, lnA] at ih1 ⊢
  have ls := startsTo_len b.gens fs i
  refine XK.seq (XK.region rfl ?_)
  refine XO.q (Q.lss rfl rfl) ?_
  refine XO.done (XK.seq ?_)
  refine XK.if rfl (fun c1 => ?_) (fun c1 => ?_)
  ·skip
   refine XK.skip (XK.seq (XK.block (XK.seq (XK.region rfl (XO.q (Q.move rfl) ?_)))))
   refine XO.ix rfl rfl (by omega) (by omega) fun i44 => ?_
   refine XO.q (Q.ldEA [_, _, _, _, _] rfl (by first | assumption | omega) rfl rfl) ?_
   refine XO.alloc fun b9 => ?_
   refine XO.q (Q.assign rfl) ?_
   refine XO.st rfl rfl rfl ?_
   refine XO.done ?_
   refine XK.drawn [0, 1, 2, 3, 5, 6, 7, 8, 9, 13, 14] [b9] [] (.q 0 (.q 1 (.q 2 (.q 3 (.q 5 (.q 6 (.q 7 (.q 8 (.q 9 (.br 4 true (.br 10 true (.br 11 true (.br 12 true (.q 13 (.q 14 (.br 15 true .done .stop))) .stop) .stop) .stop) (.br 10 true (.br 4 true (.br 11 true (.br 12 true (.q 13 (.q 14 (.br 15 true .done .stop))) .stop) .stop) (.br 11 true (.br 4 true (.br 12 true (.q 13 (.q 14 (.br 15 true .done .stop))) .stop) .stop) .stop)) .stop))))))))))) Tryz.mixed rfl (by kernel_rfl) ?_
   refine XT.q rfl rfl (Q.move rfl) ?_
   refine XT.q rfl rfl (Q.move rfl) ?_
   refine XT.q rfl rfl (Q.nilCheck rfl) ?_
   refine XT.q rfl rfl (Q.fieldAddr rfl) ?_
   refine XT.q rfl rfl (Q.ldA [_, _, _, _, _] rfl rfl rfl) ?_
   refine XT.q rfl rfl (Q.move rfl) ?_
   refine XT.q rfl rfl (Q.move rfl) ?_
   refine XT.ix rfl rfl rfl rfl (by omega) (by omega) fun i54 => ?_
   refine XT.q rfl rfl (Q.ldE rfl (by first | assumption | omega) rfl) ?_
   refine XT.qs rfl rfl (Q.ld rfl rfl) ⟨inferInstance, ?_⟩ ?_
   ·skip
    have fi := fk.f i (by omega)
    refine XT.call rfl rfl Tryz.call175 rfl rfl rfl (start_spec _ (ok.gen _ (getD_memB (by omega))) _ fi.1 fi.2) (fun v56 s56 R56 => ?_) XT.stop
    obtain ⟨rfl, rfl⟩ := R56
    dsimp only [lcA, lnA]
    refine ⟨inferInstance, ?_⟩
    refine XT.lit [_] [_] [startP (b.gens.getD i default) (fs.getD i default)] encI rfl rfl (by rfl) (by rfl) rfl (by rfl) (by exact .c 0 1 rfl rfl rfl (.n _)) (fun _ => rfl) (by rfl) rfl (by infer_instance) rfl (fun v57 h57 O57 => ⟨inferInstance, ?_⟩) XT.stop
    refine XT.append rfl rfl rfl rfl rfl rfl (by first | omega | (simp; omega)) (fun v58 h58 O58 => ⟨inferInstance, ?_⟩) XT.stop
    refine XT.q rfl rfl (Q.nilCheck rfl) ?_
    refine XT.q rfl rfl (Q.fieldAddr rfl) ?_
    refine XT.st rfl rfl rfl rfl rfl ⟨inferInstance, ?_⟩ XT.stop
    refine XT.done ?_
    refine XK.inBlock ?_
    refine XK.region rfl ?_
    refine XO.q (Q.add rfl rfl ⟨by omega, by omega⟩) ?_
    refine XO.q (Q.move rfl) (XO.done ?_)
    exact ih1 (i + 1, h58, v58) _ _ ⟨by dsimp only; omega, by dsimp only; exact O58⟩ (by first | omega | (dsimp only; omega)) (.c rfl (.base 47 rfl rfl)) inferInstance
   ·skip
    have fi := fk.f i (by omega)
    refine XT.call rfl rfl Tryz.call175 rfl rfl rfl (start_spec _ (ok.gen _ (getD_memB (by omega))) _ fi.1 fi.2) (fun v56 s56 R56 => ?_) XT.stop
    obtain ⟨rfl, rfl⟩ := R56
    dsimp only [lcA, lnA]
    refine ⟨inferInstance, ?_⟩
    refine XT.qs rfl rfl (Q.ld rfl rfl) ⟨inferInstance, ?_⟩ ?_
    ·skip
     refine XT.lit [_] [_] [startP (b.gens.getD i default) (fs.getD i default)] encI rfl rfl (by rfl) (by rfl) rfl (by rfl) (by exact .c 0 1 rfl rfl rfl (.n _)) (fun _ => rfl) (by rfl) rfl (by infer_instance) rfl (fun v57 h57 O57 => ⟨inferInstance, ?_⟩) XT.stop
     refine XT.append rfl rfl rfl rfl rfl rfl (by first | omega | (simp; omega)) (fun v58 h58 O58 => ⟨inferInstance, ?_⟩) XT.stop
     refine XT.q rfl rfl (Q.nilCheck rfl) ?_
     refine XT.q rfl rfl (Q.fieldAddr rfl) ?_
     refine XT.st rfl rfl rfl rfl rfl ⟨inferInstance, ?_⟩ XT.stop
     refine XT.done ?_
     refine XK.inBlock ?_
     refine XK.region rfl ?_
     refine XO.q (Q.add rfl rfl ⟨by omega, by omega⟩) ?_
     refine XO.q (Q.move rfl) (XO.done ?_)
     exact ih1 (i + 1, h58, v58) _ _ ⟨by dsimp only; omega, by dsimp only; exact O58⟩ (by first | omega | (dsimp only; omega)) (.c rfl (.base 47 rfl rfl)) inferInstance
    ·skip
     refine XT.lit [_] [_] [startP (b.gens.getD i default) (fs.getD i default)] encI rfl rfl (by rfl) (by rfl) rfl (by rfl) (by exact .c 0 1 rfl rfl rfl (.n _)) (fun _ => rfl) (by rfl) rfl (by infer_instance) rfl (fun v57 h57 O57 => ⟨inferInstance, ?_⟩) XT.stop
     refine XT.qs rfl rfl (Q.ld rfl rfl) ⟨inferInstance, ?_⟩ XT.stop
     refine XT.append rfl rfl rfl rfl rfl rfl (by first | omega | (simp; omega)) (fun v58 h58 O58 => ⟨inferInstance, ?_⟩) XT.stop
     refine XT.q rfl rfl (Q.nilCheck rfl) ?_
     refine XT.q rfl rfl (Q.fieldAddr rfl) ?_
     refine XT.st rfl rfl rfl rfl rfl ⟨inferInstance, ?_⟩ XT.stop
     refine XT.done ?_
     refine XK.inBlock ?_
     refine XK.region rfl ?_
     refine XO.q (Q.add rfl rfl ⟨by omega, by omega⟩) ?_
     refine XO.q (Q.move rfl) (XO.done ?_)
     exact ih1 (i + 1, h58, v58) _ _ ⟨by dsimp only; omega, by dsimp only; exact O58⟩ (by first | omega | (dsimp only; omega)) (.c rfl (.base 47 rfl rfl)) inferInstance
  ·skip
   refine XK.exit rfl ?_
   refine XK.seq (XK.region rfl (XO.q (Q.move rfl) (XO.q (Q.assign rfl) (XO.done ?_))))
   refine XK.rt [blk b16 [vb, vg, vs, vc, v14, .int .i64 0] 282, ks, kc, h14] Tryz.func131 Tryz.results131 (.t rfl .n) ?_
   have hil : i = b.gens.length := by omega
   subst hil
   exact ⟨b16, vs, vc, v14, ks, kc, h14, rfl, rfl, OS, OC, O14⟩
theorem generate0 (p : Nat) (vb vg vs vc vn : Value) [ob : One vb] [oc : One vc] [on : One vn] (sv : Int) (gens : List BGen) (sts : List Int) (pk : PlayOk gens sts) (hg hs : PHeap) [ig : Arr vg encGen 5 hg gens] [is : Arr vs encI 1 hs sts] (t : Int) (ht0 : 0 ≤ t) (ht : t ≤ 20000) (load : Int) (hn0 : 0 ≤ load) (hn1 : load ≤ 1000000) (vu : Value) (hu : PHeap) [iu : OArr vu encI 1 3 hu (List.replicate sts.length 0)] :
  Spec Tryz.prog 177 #[ptr p 0, .int .i64 t, .int .i64 load, vu] [hu] [blk p [vb, vg, vs, vc, vn, .int .i64 (sv)] 282, hg, hs] (fun v hs' => ∃ h', v = .int .i64 (gen0 gens sts t load).2 ∧ hs' = [h'] ∧ OArr vu encI 1 3 h' (gen0 gens sts t load).1) :=
 generate_spec p vb vg vs vc vn sv gens sts pk hg hs t ht0 ht load hn0 (by omega) vu hu (List.replicate sts.length 0) (zero_used fun j hj => (canAt_ok pk ht hj).1)
theorem generate1 (p : Nat) (vb vg vs vc vn : Value) [ob : One vb] [oc : One vc] [on : One vn] (sv : Int) (gens : List BGen) (sts : List Int) (pk : PlayOk gens sts) (hg hs : PHeap) [ig : Arr vg encGen 5 hg gens] [is : Arr vs encI 1 hs sts] (t : Int) (ht0 : 0 ≤ t) (ht : t ≤ 20000) (load : Int) (hn0 : 0 ≤ load) (hn1 : load ≤ 1000000) {nc k : Nat} {s : BSt} (so : StOk sts nc k s) (vu : Value) (hu : PHeap) [iu : OArr vu encI 1 3 hu (gen0 gens sts t load).1] :
  Spec Tryz.prog 177 #[ptr p 0, .int .i64 t, .int .i64 (take0 gens sts t load s).2, vu] [hu] [blk p [vb, vg, vs, vc, vn, .int .i64 (sv)] 282, hg, hs] (fun v hs' => ∃ h', v = .int .i64 (gen1 gens sts t load s).2 ∧ hs' = [h'] ∧ OArr vu encI 1 3 h' (gen1 gens sts t load s).1) :=
 generate_spec p vb vg vs vc vn sv gens sts pk hg hs t ht0 ht (take0 gens sts t load s).2 (take0_ok pk ht hn0 so).2.1 (take0_ok pk ht hn0 so).2.2 vu hu (gen0 gens sts t load).1 (gen0_ok pk ht hn0).1
set_option maxHeartbeats 1000000 in
theorem second_spec (p : Nat) (vb vg vs vc vn : Value) [ob : One vb] (gens : List BGen) (sts : List Int) (pk : PlayOk gens sts) (hg hs : PHeap) [ig : Arr vg encGen 5 hg gens] [is : Arr vs encI 1 hs sts] (s : BSt) (hc hn : PHeap) [ic : OArr vc encCell 5 329 hc s.cells] [jn : OArr vn encI 1 3 hn s.burnt] {nc k : Nat} (so : StOk sts nc k s) (hk : k ≤ 20000)
  (t : Int) (ht0 : 0 ≤ t) (ht : t ≤ 20000) (load : Int) (hn0 : 0 ≤ load) (hn1 : load ≤ 1000000) (strict : Bool) :
  Spec Tryz.prog 132 #[ptr p 0, .int .i64 t, .int .i64 load, .bool strict] [blk p [vb, vg, vs, vc, vn, .int .i64 (s.served)] 282, hc, hn] [hg, hs] (fun v hs' => ∃ vc' hc' hn', v = .int .i64 (secondP gens sts t load strict s).1 ∧ hs' = [blk p [vb, vg, vs, vc', vn, .int .i64 (secondP gens sts t load strict s).2.served] 282, hc', hn'] ∧ OArr vc' encCell 5 329 hc' (secondP gens sts t load strict s).2.cells ∧ OArr vn encI 1 3 hn' (secondP gens sts t load strict s).2.burnt) := by
 have lc := ic.arr.le
 have ls := is.le
 have n8 := so.nc8
 have cl := so.c.len
 have n6 := pk.ng
 have ns := pk.n
 have s0 := so.s0
 have s1 := so.s1
 have bl := so.b.len
 have g0 := gen0_ok pk ht hn0
 have gl := g0.1.len
 have v0 := give0_ok pk ht hn0 so
 have t0 := take0_ok pk ht hn0 so
 have p0 := spare0_ok pk ht hn0
 have g1 := gen1_ok pk ht hn0 so
 have g1l := g1.len
 have hca := fun j hj => canAt_ok (i := j) pk ht hj
 have hgv := fun i hi => giveTo_ok so.c g0.2.1 i hi
 have hsp := fun i hi => spareTo_ok g0.1 (fun j hj => (hca j hj).2) i hi
 have p0 : 0 ≤ (spareTo (canAt gens sts t) (gen0 gens sts t load).1 sts.length) ∧ (spareTo (canAt gens sts t) (gen0 gens sts t load).1 sts.length) ≤ 6000000 := p0
 have htk := fun i hi => takeTo_ok so.c p0.1 i hi
 refine Spec.intro (fn := Tryz.f132) (N := 141) Tryz.func132 rfl Tryz.ntmps132 rfl fun B => ?_
 refine XK.seq (XK.region rfl (XO.q (Q.assign rfl) (XO.done (XK.seq (XK.region rfl ?_)))))
 refine XO.q (Q.move rfl) ?_
 refine XO.q (Q.nilCheck rfl) ?_
 refine XO.q (Q.fieldAddr rfl) ?_
 refine XO.q (Q.ld rfl rfl) ?_
 refine XO.call Tryz.call176 rfl rfl rfl (cloneC vc hc s.cells (by omega)) fun v23 s23 R23 => ?_
 obtain ⟨k23, rfl, O23⟩ := R23
 dsimp only [lcA, lnA]
 refine XO.q (Q.assign rfl) (XO.done (XK.seq (XK.region rfl (XO.q (Q.move rfl) ?_))))
 refine XO.q (Q.nilCheck rfl) ?_
 refine XO.q (Q.fieldAddr rfl) ?_
 refine XO.q (Q.ld rfl rfl) ?_
 refine XO.len rfl fun l28 => ?_
 refine XO.make encI (0) rfl rfl rfl (by omega) (by omega) (fun _ => rfl) rfl rfl rfl (by dsimp only [encI]; infer_instance) fun v29 h29 O29 => ?_
 refine XO.q (Q.assign rfl) (XO.done (XK.seq (XK.region rfl (XO.q (Q.move rfl) (XO.q (Q.move rfl) ?_)))))
 refine XO.q (Q.move rfl) (XO.q (Q.move rfl) ?_)
 refine XO.call Tryz.call177 rfl rfl rfl (generate0 p vb vg vs vc vn s.served gens sts pk hg hs t ht0 ht load hn0 hn1 v29 h29) fun v34 s34 R34 => ?_
 obtain ⟨k34, rfl, rfl, O34⟩ := R34
 dsimp only [lcA, lnA]
 refine XO.q (Q.assign rfl) (XO.done (XK.seq (XK.seq (XK.region rfl (XO.q (Q.move rfl) ?_)))))
 refine XO.q (Q.gtr rfl rfl) ?_
 refine XO.done ?_
 refine XK.if rfl (fun c0 => ?_) (fun c0 => ?_)
 ·skip
  refine XK.seq (XK.seq (XK.region rfl (XO.q (Q.move rfl) ?_)))
  refine XO.q (Q.nilCheck rfl) ?_
  refine XO.q (Q.fieldAddr rfl) ?_
  refine XO.q (Q.ld rfl rfl) ?_
  refine XO.len rfl fun l41 => ?_
  refine XO.q (Q.move rfl) (XO.done (XK.block ?_))
  refine XK.while (X := Nat × PHeap) [11, 12, 42, 43, 44, 45, 46, 47, 48, 49, 50, 51, 52, 53, 54, 55] (fun ⟨i, kc⟩ => [(11, some (.int .i64 ((giveTo s.cells (gen0 gens sts t load).2 (i)).2))), (42, some (.int .i64 (i : Nat)))]) (fun ⟨i, kc⟩ => [kc]) (fun ⟨i, kc⟩ => i ≤ s.cells.length ∧ OArr vc encCell 5 329 kc (giveTo s.cells (gen0 gens sts t load).2 (i)).1) (fun ⟨i, kc⟩ => s.cells.length - i) (0, hc) [hc] rfl ⟨by omega, ic⟩ (.c rfl (.c rfl (.base 0 rfl rfl))) ?_
  rintro ⟨i, kc⟩ ⟨hi, OG⟩ ih0
  dsimp only [lcA, lnA] at ih0 ⊢
  have gvi := hgv i (by omega)
  have gvl := gvi.1.len
  refine XK.seq (XK.region rfl ?_)
  refine XO.q (Q.lss rfl rfl) ?_
  refine XO.done (XK.seq ?_)
  refine XK.if rfl (fun c1 => ?_) (fun c1 => ?_)
  ·skip
   have gci := giveC_ok (gvi.1.ok i (by omega)) gvi.2.1
   refine XK.skip (XK.seq (XK.block (XK.seq (XK.region rfl (XO.q (Q.move rfl) ?_)))))
   refine XO.q (Q.assign rfl) (XO.done (XK.region rfl (XO.q (Q.move rfl) (XO.q (Q.move rfl) ?_))))
   refine XO.q (Q.nilCheck rfl) ?_
   refine XO.q (Q.fieldAddr rfl) ?_
   refine XO.q (Q.ld rfl rfl) ?_
   refine XO.q (Q.move rfl) ?_
   refine XO.ix rfl rfl (by omega) (by omega) fun i51 => ?_
   refine XO.q (Q.move rfl) ?_
   refine XO.call Tryz.call178 rfl rfl rfl (give_spec vc kc (giveTo s.cells (gen0 gens sts t load).2 (i)).1 i (by omega) (gvi.1.ok i (by omega)) (giveTo s.cells (gen0 gens sts t load).2 (i)).2 gvi.2.1 (by omega)) fun v53 s53 R53 => ?_
   obtain ⟨k53, rfl, rfl, O53⟩ := R53
   dsimp only [lcA, lnA]
   refine XO.q (Q.sub rfl rfl ⟨by omega, by omega⟩) ?_
   refine XO.q (Q.assign rfl) (XO.done ?_)
   refine XK.inBlock ?_
   refine XK.region rfl ?_
   refine XO.q (Q.add rfl rfl ⟨by omega, by omega⟩) ?_
   refine XO.q (Q.move rfl) (XO.done ?_)
   exact ih0 (i + 1, k53) _ _ ⟨by dsimp only; omega, by dsimp only; exact O53⟩ (by first | omega | (dsimp only; omega)) (.c rfl (.c rfl (.base 34 rfl rfl))) inferInstance
  ·skip
   have hil : i = s.cells.length := by omega
   subst hil
   clear ih0
   have v0 : 0 ≤ (giveTo s.cells (gen0 gens sts t load).2 (s.cells.length)).2 ∧ (giveTo s.cells (gen0 gens sts t load).2 (s.cells.length)).2 ≤ load := v0.2
   refine XK.exit rfl ?_
   refine XK.seq (XK.region rfl (XO.q (Q.move rfl) ?_))
   refine XO.q (Q.gtr rfl rfl) ?_
   refine XO.q (Q.move rfl) ?_
   refine XO.q (Quiet.guardT rfl rfl fun g59 p59 => Q.move rfl) ?_
   refine XO.q (Q.and rfl (fun hp => lzv hp rfl)) ?_
   refine XO.done ?_
   refine XK.if rfl (fun c2 => ?_) (fun c2 => ?_)
   ·skip
    refine XK.seq (XK.region rfl (XO.q (Q.move rfl) (XO.q (Q.move rfl) ?_)))
    refine XO.q (Q.nilCheck rfl) ?_
    refine XO.q (Q.fieldAddr rfl) ?_
    refine XO.st rfl rfl rfl ?_
    refine XO.done (XK.seq (XK.region rfl (XO.q (Q.move rfl) (XO.q (Q.assign rfl) (XO.done ?_)))))
    refine XK.rt [blk p [vb, vg, vs, v23, vn, .int .i64 (s.served)] 282, k23, hn] Tryz.func132 Tryz.results132 (.t rfl .n) ?_
    have e : secondP gens sts t load strict s = ((give0 gens sts t load s).2, s) := by
     unfold secondP
     rw [if_pos c0, if_pos ⟨c2.1, by simpa using c2.2⟩]
    rw [e]
    exact ⟨v23, k23, hn, rfl, rfl, O23, jn⟩
   ·skip
    refine XK.skip (XK.seq (XK.seq (XK.region rfl (XO.q (Q.move rfl) ?_))))
    refine XO.len rfl fun l113 => ?_
    refine XO.q (Q.move rfl) (XO.done (XK.block ?_))
    refine XK.while (X := Nat × PHeap) [17, 18, 114, 115, 116, 117, 118, 119, 120, 121, 122, 123, 124, 125, 126, 127, 128, 129] (fun ⟨i, kn⟩ => [(114, some (.int .i64 (i : Nat)))]) (fun ⟨i, kn⟩ => [kn]) (fun ⟨i, kn⟩ => i ≤ sts.length ∧ OArr vn encI 1 3 kn (addTo s.burnt (gen0 gens sts t load).1 i)) (fun ⟨i, kn⟩ => sts.length - i) (0, hn) [hn] rfl ⟨by omega, jn⟩ (.c rfl (.base 0 rfl rfl)) ?_
    rintro ⟨i, kn⟩ ⟨hi, OB⟩ ih1
    dsimp only [lcA, lnA] at ih1 ⊢
    obtain ⟨al, aa⟩ := addTo_at (bs := s.burnt) (us := (gen0 gens sts t load).1) i (by omega)
    refine XK.seq (XK.region rfl ?_)
    refine XO.q (Q.lss rfl rfl) ?_
    refine XO.done (XK.seq ?_)
    refine XK.if rfl (fun c3 => ?_) (fun c3 => ?_)
    ·skip
     have ai := aa i
     rw [if_neg (by omega)] at ai
     have sb := so.b.b i (by omega)
     have ub := g0.1.b i (by omega)
     have cb := hca i (by omega)
     refine XK.skip (XK.seq (XK.block (XK.seq (XK.region rfl (XO.q (Q.move rfl) ?_)))))
     refine XO.ix rfl rfl (by omega) (by omega) fun i117 => ?_
     refine XO.q (Q.ldE rfl (by first | assumption | omega) rfl) ?_
     refine XO.q (Q.assign rfl) (XO.q (Q.assign rfl) (XO.done (XK.region rfl (XO.q (Q.move rfl) ?_))))
     refine XO.q (Q.nilCheck rfl) ?_
     refine XO.q (Q.fieldAddr rfl) ?_
     refine XO.q (Q.ld rfl rfl) ?_
     refine XO.q (Q.move rfl) ?_
     refine XO.ix rfl rfl (by omega) (by omega) fun i124 => ?_
     refine XO.q (Q.ldE rfl (by first | assumption | omega) rfl) ?_
     refine XO.q (Q.move rfl) ?_
     refine XO.q (Q.add rfl rfl ⟨by omega, by omega⟩) ?_
     refine XO.ix rfl rfl (by omega) (by omega) fun i128 => ?_
     refine XO.stE _ rfl rfl rfl (by assumption) rfl rfl fun h29_10 O29_10 => ?_
     refine XO.done ?_
     refine XK.inBlock ?_
     refine XK.region rfl ?_
     refine XO.q (Q.add rfl rfl ⟨by omega, by omega⟩) ?_
     refine XO.q (Q.move rfl) (XO.done ?_)
     exact ih1 (i + 1, h29_10) _ _ ⟨by dsimp only; omega, by dsimp only; exact O29_10⟩ (by first | omega | (dsimp only; omega)) (.c rfl (.base 37 rfl rfl)) inferInstance
    ·skip
     refine XK.exit rfl ?_
     refine XK.seq (XK.region rfl (XO.q (Q.move rfl) ?_))
     refine XO.q (Q.nilCheck rfl) ?_
     refine XO.q (Q.fieldAddr rfl) ?_
     refine XO.q (Q.ld rfl rfl) ?_
     refine XO.q (Q.move rfl) (XO.q (Q.move rfl) ?_)
     refine XO.q (Q.sub rfl rfl ⟨by omega, by omega⟩) ?_
     refine XO.q (Q.add rfl rfl ⟨by omega, by omega⟩) ?_
     refine XO.q (Q.nilCheck rfl) ?_
     refine XO.q (Q.fieldAddr rfl) ?_
     refine XO.st rfl rfl rfl ?_
     refine XO.done (XK.seq (XK.region rfl (XO.q (Q.move rfl) (XO.q (Q.assign rfl) (XO.done ?_)))))
     refine XK.rt [blk p [vb, vg, vs, vc, vn, .int .i64 (s.served + (load - (giveTo s.cells (gen0 gens sts t load).2 (s.cells.length)).2))] 282, kc, kn] Tryz.func132 Tryz.results132 (.t rfl .n) ?_
     have hil : i = sts.length := by omega
     subst hil
     have e : secondP gens sts t load strict s = ((give0 gens sts t load s).2, ⟨(give0 gens sts t load s).1, addTo s.burnt (gen0 gens sts t load).1 sts.length, s.served + (load - (give0 gens sts t load s).2)⟩) := by
      unfold secondP
      rw [if_pos c0, if_neg (by exact c2)]
     rw [e]
     exact ⟨vc, kc, kn, rfl, rfl, OG, OB⟩
 ·skip
  refine XK.seq (XK.region rfl (XO.q (Q.assign rfl) (XO.done (XK.seq (XK.seq ?_)))))
  refine XK.region rfl (XO.q (Q.move rfl) ?_)
  refine XO.q (Q.nilCheck rfl) ?_
  refine XO.q (Q.fieldAddr rfl) ?_
  refine XO.q (Q.ld rfl rfl) ?_
  refine XO.len rfl fun l70 => ?_
  refine XO.q (Q.move rfl) (XO.done (XK.block ?_))
  refine XK.while (X := Nat) [13, 14, 71, 72, 73, 74, 75, 76, 77, 78, 79, 80, 81, 82, 83, 84, 85] (fun i => [(13, some (.int .i64 (spareTo (canAt gens sts t) (gen0 gens sts t load).1 i))), (71, some (.int .i64 (i : Nat)))]) (fun i => []) (fun i => i ≤ sts.length) (fun i => sts.length - i) (0) [] rfl (by omega) (.c rfl (.c rfl (.base 0 rfl rfl))) ?_
  rintro i hi ih2
  dsimp only [lcA, lnA] at ih2 ⊢
  have spi := hsp i hi
  refine XK.seq (XK.region rfl ?_)
  refine XO.q (Q.lss rfl rfl) ?_
  refine XO.done (XK.seq ?_)
  refine XK.if rfl (fun c4 => ?_) (fun c4 => ?_)
  ·skip
   have ubi := g0.1.b i (by omega)
   have cbi := hca i (by omega)
   refine XK.skip (XK.seq (XK.block (XK.seq (XK.region rfl (XO.q (Q.move rfl) ?_)))))
   refine XO.q (Q.assign rfl) (XO.done ?_)
   refine XK.drawn [0, 1, 2, 3, 5, 6, 7, 8, 9, 10, 11] [] [k34] (.q 0 (.q 1 (.q 2 (.q 3 (.q 5 (.q 6 (.q 7 (.q 8 (.br 4 true (.q 9 (.q 10 (.q 11 .done))) .stop))))))))) Tryz.mixed rfl (by kernel_rfl) ?_
   refine XT.q rfl rfl (Q.move rfl) ?_
   refine XT.q rfl rfl (Q.move rfl) ?_
   refine XT.q rfl rfl (Q.move rfl) ?_
   refine XT.q rfl rfl (Q.move rfl) ?_
   refine XT.q rfl rfl (Q.move rfl) ?_
   refine XT.q rfl rfl (Q.move rfl) ?_
   refine XT.ix rfl rfl rfl rfl (by omega) (by omega) fun i81 => ?_
   refine XT.q rfl rfl (Q.ldE rfl (by first | assumption | omega) rfl) ?_
   refine XT.call rfl rfl Tryz.call179 rfl rfl rfl (can_spec p vb vg vs vc vn s.served gens sts pk hg hs i (by omega) t ht0 ht) (fun v78 s78 R78 => ?_) XT.stop
   obtain ⟨rfl, rfl⟩ := R78
   dsimp only [lcA, lnA]
   refine ⟨inferInstance, ?_⟩
   refine XT.q rfl rfl (Q.sub rfl rfl ⟨by omega, by omega⟩) ?_
   refine XT.q rfl rfl (Q.add rfl rfl ⟨by omega, by omega⟩) ?_
   refine XT.q rfl rfl (Q.assign rfl) ?_
   refine XT.done ?_
   refine XK.inBlock ?_
   refine XK.region rfl ?_
   refine XO.q (Q.add rfl rfl ⟨by omega, by omega⟩) ?_
   refine XO.q (Q.move rfl) (XO.done ?_)
   exact ih2 (i + 1) _ _ (by omega) (by first | omega | (dsimp only; omega)) (.c rfl (.c rfl (.base 36 rfl rfl))) inferInstance
  ·skip
   have hil : i = sts.length := by omega
   subst hil
   clear ih2
   refine XK.exit rfl ?_
   refine XK.seq (XK.region rfl (XO.q (Q.assign rfl) (XO.done (XK.seq (XK.seq ?_)))))
   refine XK.region rfl (XO.q (Q.move rfl) ?_)
   refine XO.q (Q.nilCheck rfl) ?_
   refine XO.q (Q.fieldAddr rfl) ?_
   refine XO.q (Q.ld rfl rfl) ?_
   refine XO.len rfl fun l90 => ?_
   refine XO.q (Q.move rfl) (XO.done (XK.block ?_))
   refine XK.while (X := Nat × PHeap) [15, 16, 91, 92, 93, 94, 95, 96, 97, 98, 99, 100, 101, 102, 103, 104, 105, 106] (fun ⟨i, kc⟩ => [(15, some (.int .i64 ((takeTo s.cells (spareTo (canAt gens sts t) (gen0 gens sts t load).1 sts.length) (i)).2))), (91, some (.int .i64 (i : Nat)))]) (fun ⟨i, kc⟩ => [kc]) (fun ⟨i, kc⟩ => i ≤ s.cells.length ∧ OArr vc encCell 5 329 kc (takeTo s.cells (spareTo (canAt gens sts t) (gen0 gens sts t load).1 sts.length) (i)).1) (fun ⟨i, kc⟩ => s.cells.length - i) (0, hc) [hc] rfl ⟨by omega, ic⟩ (.c rfl (.c rfl (.base 0 rfl rfl))) ?_
   rintro ⟨i, kc⟩ ⟨hi, OT⟩ ih3
   dsimp only [lcA, lnA] at ih3 ⊢
   have tki := htk i (by omega)
   have tkl := tki.1.len
   refine XK.seq (XK.region rfl ?_)
   refine XO.q (Q.lss rfl rfl) ?_
   refine XO.done (XK.seq ?_)
   refine XK.if rfl (fun c5 => ?_) (fun c5 => ?_)
   ·skip
    have tci := takeC_ok (tki.1.ok i (by omega)) (need := (spareTo (canAt gens sts t) (gen0 gens sts t load).1 sts.length) - (takeTo s.cells (spareTo (canAt gens sts t) (gen0 gens sts t load).1 sts.length) (i)).2) (by omega)
    refine XK.skip (XK.seq (XK.block (XK.seq (XK.region rfl (XO.q (Q.move rfl) ?_)))))
    refine XO.q (Q.assign rfl) (XO.done (XK.region rfl (XO.q (Q.move rfl) (XO.q (Q.move rfl) ?_))))
    refine XO.q (Q.nilCheck rfl) ?_
    refine XO.q (Q.fieldAddr rfl) ?_
    refine XO.q (Q.ld rfl rfl) ?_
    refine XO.q (Q.move rfl) ?_
    refine XO.ix rfl rfl (by omega) (by omega) fun i100 => ?_
    refine XO.q (Q.move rfl) (XO.q (Q.move rfl) ?_)
    refine XO.q (Q.sub rfl rfl ⟨by omega, by omega⟩) ?_
    refine XO.call Tryz.call180 rfl rfl rfl (take_spec vc kc (takeTo s.cells (spareTo (canAt gens sts t) (gen0 gens sts t load).1 sts.length) (i)).1 i (by omega) (tki.1.ok i (by omega)) ((spareTo (canAt gens sts t) (gen0 gens sts t load).1 sts.length) - (takeTo s.cells (spareTo (canAt gens sts t) (gen0 gens sts t load).1 sts.length) (i)).2) (by omega) (by omega)) fun v104 s104 R104 => ?_
    obtain ⟨k104, rfl, rfl, O104⟩ := R104
    dsimp only [lcA, lnA]
    refine XO.q (Q.add rfl rfl ⟨by omega, by omega⟩) ?_
    refine XO.q (Q.assign rfl) (XO.done ?_)
    refine XK.inBlock ?_
    refine XK.region rfl ?_
    refine XO.q (Q.add rfl rfl ⟨by omega, by omega⟩) ?_
    refine XO.q (Q.move rfl) (XO.done ?_)
    exact ih3 (i + 1, k104) _ _ ⟨by dsimp only; omega, by dsimp only; exact O104⟩ (by first | omega | (dsimp only; omega)) (.c rfl (.c rfl (.base 38 rfl rfl))) inferInstance
   ·skip
    have hil : i = s.cells.length := by omega
    subst hil
    clear ih3
    refine XK.exit rfl ?_
    refine XK.region rfl (XO.q (Q.move rfl) (XO.q (Q.move rfl) (XO.q (Q.move rfl) (XO.q (Q.move rfl) ?_))))
    refine XO.call Tryz.call177 rfl rfl rfl (generate1 p vb vg vs vc vn s.served gens sts pk hg hs t ht0 ht load hn0 hn1 so v29 k34) fun v111 s111 R111 => ?_
    obtain ⟨k111, rfl, rfl, O111⟩ := R111
    dsimp only [lcA, lnA]
    refine XO.done (XK.seq (XK.seq (XK.region rfl (XO.q (Q.move rfl) ?_))))
    refine XO.len rfl fun l113 => ?_
    refine XO.q (Q.move rfl) (XO.done (XK.block ?_))
    refine XK.while (X := Nat × PHeap) [17, 18, 114, 115, 116, 117, 118, 119, 120, 121, 122, 123, 124, 125, 126, 127, 128, 129] (fun ⟨i, kn⟩ => [(114, some (.int .i64 (i : Nat)))]) (fun ⟨i, kn⟩ => [kn]) (fun ⟨i, kn⟩ => i ≤ sts.length ∧ OArr vn encI 1 3 kn (addTo s.burnt (gen1 gens sts t load s).1 i)) (fun ⟨i, kn⟩ => sts.length - i) (0, hn) [hn] rfl ⟨by omega, jn⟩ (.c rfl (.base 0 rfl rfl)) ?_
    rintro ⟨i, kn⟩ ⟨hi, OB⟩ ih4
    dsimp only [lcA, lnA] at ih4 ⊢
    obtain ⟨al, aa⟩ := addTo_at (bs := s.burnt) (us := (gen1 gens sts t load s).1) i (by omega)
    refine XK.seq (XK.region rfl ?_)
    refine XO.q (Q.lss rfl rfl) ?_
    refine XO.done (XK.seq ?_)
    refine XK.if rfl (fun c6 => ?_) (fun c6 => ?_)
    ·skip
     have ai := aa i
     rw [if_neg (by omega)] at ai
     have sb := so.b.b i (by omega)
     have ub := g1.b i (by omega)
     have cb := hca i (by omega)
     refine XK.skip (XK.seq (XK.block (XK.seq (XK.region rfl (XO.q (Q.move rfl) ?_)))))
     refine XO.ix rfl rfl (by omega) (by omega) fun i117 => ?_
     refine XO.q (Q.ldE rfl (by first | assumption | omega) rfl) ?_
     refine XO.q (Q.assign rfl) (XO.q (Q.assign rfl) (XO.done (XK.region rfl (XO.q (Q.move rfl) ?_))))
     refine XO.q (Q.nilCheck rfl) ?_
     refine XO.q (Q.fieldAddr rfl) ?_
     refine XO.q (Q.ld rfl rfl) ?_
     refine XO.q (Q.move rfl) ?_
     refine XO.ix rfl rfl (by omega) (by omega) fun i124 => ?_
     refine XO.q (Q.ldE rfl (by first | assumption | omega) rfl) ?_
     refine XO.q (Q.move rfl) ?_
     refine XO.q (Q.add rfl rfl ⟨by omega, by omega⟩) ?_
     refine XO.ix rfl rfl (by omega) (by omega) fun i128 => ?_
     refine XO.stE _ rfl rfl rfl (by assumption) rfl rfl fun h29_10 O29_10 => ?_
     refine XO.done ?_
     refine XK.inBlock ?_
     refine XK.region rfl ?_
     refine XO.q (Q.add rfl rfl ⟨by omega, by omega⟩) ?_
     refine XO.q (Q.move rfl) (XO.done ?_)
     exact ih4 (i + 1, h29_10) _ _ ⟨by dsimp only; omega, by dsimp only; exact O29_10⟩ (by first | omega | (dsimp only; omega)) (.c rfl (.base 37 rfl rfl)) inferInstance
    ·skip
     refine XK.exit rfl ?_
     refine XK.seq (XK.region rfl (XO.q (Q.move rfl) ?_))
     refine XO.q (Q.nilCheck rfl) ?_
     refine XO.q (Q.fieldAddr rfl) ?_
     refine XO.q (Q.ld rfl rfl) ?_
     refine XO.q (Q.move rfl) (XO.q (Q.move rfl) ?_)
     refine XO.q (Q.sub rfl rfl ⟨by omega, by omega⟩) ?_
     refine XO.q (Q.add rfl rfl ⟨by omega, by omega⟩) ?_
     refine XO.q (Q.nilCheck rfl) ?_
     refine XO.q (Q.fieldAddr rfl) ?_
     refine XO.st rfl rfl rfl ?_
     refine XO.done (XK.seq (XK.region rfl (XO.q (Q.move rfl) (XO.q (Q.assign rfl) (XO.done ?_)))))
     refine XK.rt [blk p [vb, vg, vs, vc, vn, .int .i64 (s.served + (load - (gen0 gens sts t load).2))] 282, kc, kn] Tryz.func132 Tryz.results132 (.t rfl .n) ?_
     have hil : i = sts.length := by omega
     subst hil
     have e : secondP gens sts t load strict s = ((gen0 gens sts t load).2, ⟨(take0 gens sts t load s).1, addTo s.burnt (gen1 gens sts t load s).1 sts.length, s.served + (load - (gen0 gens sts t load).2)⟩) := by
      unfold secondP
      rw [if_neg c0]
     rw [e]
     exact ⟨vc, kc, kn, rfl, rfl, OT, OB⟩
end Go.X.Bk

set_option linter.unusedSimpArgs false
set_option linter.unusedVariables false
set_option maxRecDepth 20000
namespace Go.X.Bk
open Go.Proofs
def secItems (pw : List Int) : List (List Value) := (List.range pw.length).map (fun k => [.int .i64 (k : Nat), .int .i64 (pw.getD k default)])
theorem secItems_len (pw : List Int) : (secItems pw).length = pw.length := by simp [secItems]
theorem secItems_at {pw : List Int} {i : Nat} (hi : i < pw.length) : (secItems pw).getD i [] = [.int .i64 (i : Nat), .int .i64 (pw.getD i default)] := by
 rw [List.getD_eq_getElem?_getD, secItems, List.getElem?_map, List.getElem?_range hi]; rfl
theorem secItems_two {pw : List Int} : ∀ i, i < (secItems pw).length → ((secItems pw).getD i []).length = 2 := fun i hi => by
 rw [secItems_len] at hi
 rw [secItems_at hi]; rfl
theorem seconds1 (b : Nat) (l : List BSpan) (vl : Value) (hl : PHeap) [il : Arr vl encSpan 2 hl l] (lk : LOk l) : It Tryz.prog (.func (.func 181) #[] #[ptr b 0]) (secItems (powers l)) [blk b [vl] 105, hl] := by
 intro f Hr QQ XX hy q hq
 refine VSpec.fn (P := Tryz.prog) (g := 181) (fst := []) (vs := [f]) (cap := [ptr b 0]) (A := [f, ptr b 0]) (Hm := [q]) Tryz.call181 rfl ?_
 dsimp only [lcA, lnA]
 rw [secItems_len] at *
 have ll := il.le
 have hpl := powers_len lk
 have ln := lk.n
 have hca := cnt_all l
 have hcall : ∀ i j : Nat, i < l.length → (j : Int) < (l.getD i default).seconds → ∀ q, QQ (cnt l i + j) q →
   VSpec Tryz.prog f [.int .i64 ((cnt l i + j : Nat) : Int), .int .i64 (l.getD i default).power] [q] Hr (fun v hs => ∃ bb q', v = .bool bb ∧ hs = [q'] ∧ (bb = true → QQ (cnt l i + j + 1) q') ∧ (bb = false → XX q')) := by
  intro i j hi hj q hq
  obtain ⟨h1, h2⟩ := powers_at l hi hj
  have := hy _ h1 q hq
  rwa [secItems_at h1, h2] at this
 refine Spec.intro (fn := Tryz.f181) (N := 26) Tryz.func181 rfl Tryz.ntmps181 rfl fun B => ?_
 refine XK.seq (XK.region rfl (XO.q (Q.assign rfl) (XO.done (XK.seq (XK.region rfl ?_)))))
 refine XO.q (Q.ld rfl rfl) ?_
 refine XO.len rfl fun l7 => ?_
 refine XO.q (Q.move rfl) (XO.done (XK.block ?_))
 refine XK.while (X := Nat × PHeap) [3, 5, 8, 9, 10, 11, 12, 13, 14, 15, 16, 17, 18, 19, 20, 21, 22, 23, 24, 25] (fun ⟨i, q1⟩ => [(3, some (.int .i64 ((cnt l i : Nat) : Int))), (8, some (.int .i64 (i : Nat)))]) (fun ⟨i, q1⟩ => [q1]) (fun ⟨i, q1⟩ => i ≤ l.length ∧ QQ (cnt l i) q1) (fun ⟨i, q1⟩ => l.length - i) (0, q) [q] rfl ⟨by omega, hq⟩ (.c rfl (.c rfl (.base 0 rfl rfl))) ?_
 rintro ⟨i, q1⟩ ⟨hi, hQ⟩ ih0
 dsimp only [lcA, lnA] at ih0 ⊢
 refine XK.seq (XK.region rfl ?_)
 refine XO.q (Q.lss rfl rfl) ?_
 refine XO.done (XK.seq ?_)
 refine XK.if rfl (fun c0 => ?_) (fun c0 => ?_)
 ·skip
  have sk := lk.s _ (getD_memB (show i < l.length by omega))
  refine XK.skip (XK.seq (XK.block (XK.seq (XK.region rfl ?_))))
  refine XO.ix rfl rfl (by omega) (by omega) fun i10 => ?_
  refine XO.q (Q.ldEA [_, _] rfl (by first | assumption | omega) rfl rfl) ?_
  refine XO.alloc fun b5 => ?_
  refine XO.st rfl rfl rfl ?_
  refine XO.done (XK.seq (XK.region rfl ?_))
  refine XO.q (Q.fieldAddr rfl) ?_
  refine XO.q (Q.ld rfl rfl) ?_
  refine XO.q (Q.move rfl) (XO.done (XK.block ?_))
  refine XK.while (X := Nat × PHeap) [3, 14, 15, 16, 17, 18, 19, 20, 21, 22, 23, 24] (fun ⟨j, q2⟩ => [(3, some (.int .i64 ((cnt l i + j : Nat) : Int))), (14, some (.int .i64 (j : Nat)))]) (fun ⟨j, q2⟩ => [q2]) (fun ⟨j, q2⟩ => (j : Int) ≤ (l.getD i default).seconds ∧ QQ (cnt l i + j) q2) (fun ⟨j, q2⟩ => (l.getD i default).seconds.toNat - j) (0, q1) [q1] rfl ⟨by omega, hQ⟩ (.c rfl (.c rfl (.base 0 rfl rfl))) ?_
  rintro ⟨j, q2⟩ ⟨hj, hQ2⟩ ih1
  dsimp only [lcA, lnA] at ih1 ⊢
  refine XK.seq (XK.region rfl ?_)
  refine XO.q (Q.lss rfl rfl) ?_
  refine XO.done (XK.seq ?_)
  refine XK.if rfl (fun c1 => ?_) (fun c1 => ?_)
  ·skip
   obtain ⟨hp1, hp2⟩ := powers_at l (i := i) (j := j) (by omega) (by omega)
   refine XK.skip (XK.seq (XK.block (XK.seq (XK.seq (XK.region rfl ?_)))))
   refine XO.q (Q.move rfl) (XO.q (Q.move rfl) ?_)
   refine XO.q (Q.fieldAddr rfl) ?_
   refine XO.q (Q.ld rfl rfl) ?_
   refine XO.vcall rfl rfl (hcall i j (by omega) (by omega) q2 hQ2) fun v20 s20 R20 => ?_
   obtain ⟨bb, q3, rfl, rfl, hT, hF⟩ := R20
   dsimp only [lcA, lnA]
   refine XO.q (Q.not rfl) ?_
   refine XO.done ?_
   refine XK.if rfl (fun c2 => ?_) (fun c2 => ?_)
   ·skip
    refine XK.rt [q3] Tryz.func181 Tryz.results181 (.n) ?_
    exact ⟨q3, rfl, .inr (hF (by cases bb <;> simp_all))⟩
   ·skip
    refine XK.skip (XK.region rfl (XO.q (Q.move rfl) ?_))
    refine XO.q (Q.add rfl rfl ⟨by omega, by omega⟩) ?_
    rw [show ((cnt l i + j : Nat) : Int) + 1 = ((cnt l i + j + 1 : Nat) : Int) from rfl]
    refine XO.q (Q.assign rfl) (XO.done ?_)
    refine XK.inBlock ?_
    refine XK.region rfl ?_
    refine XO.q (Q.add rfl rfl ⟨by omega, by omega⟩) ?_
    refine XO.q (Q.move rfl) (XO.done ?_)
    exact ih1 (j + 1, q3) _ _ ⟨by dsimp only; omega, hT (by cases bb <;> simp_all)⟩ (by dsimp only; omega) (.c rfl (.c rfl (.base 26 rfl rfl))) inferInstance
  ·skip
   refine XK.exit rfl ?_
   refine XK.inBlock ?_
   refine XK.region rfl ?_
   refine XO.q (Q.add rfl rfl ⟨by omega, by omega⟩) ?_
   refine XO.q (Q.move rfl) (XO.done ?_)
   have hjn : cnt l i + j = cnt l (i + 1) := by rw [cnt]; omega
   rw [hjn] at hQ2 ⊢
   exact ih0 (i + 1, q2) _ _ ⟨by dsimp only; omega, hQ2⟩ (by first | omega | (dsimp only; omega)) (.c rfl (.c rfl (.base 46 rfl rfl))) inferInstance
 ·skip
  refine XK.exit rfl ?_
  refine XK.fn [q1] Tryz.func181 Tryz.results181 (.n) ?_
  have hil : i = l.length := by omega
  subst hil
  rw [hca] at hQ
  exact ⟨q1, rfl, .inl hQ⟩
theorem seconds_spec (vl : Value) [ol : One vl] : Spec Tryz.prog 133 #[vl] [] [] (fun v hs => ∃ b, v = .func (.func 181) #[] #[ptr b 0] ∧ hs = [blk b [vl] 105]) := by
 refine Spec.intro (fn := Tryz.f133) (N := 4) Tryz.func133 rfl Tryz.ntmps133 rfl fun B => ?_
 refine XK.seq (XK.region rfl ?_)
 refine XO.box rfl fun b1 => ?_
 refine XO.q (Q.assign rfl) (XO.done (XK.seq (XK.region rfl ?_)))
 refine XO.q (Q.func (fun _ he => rfl) (fun _ he => evs_rel he rfl)) ?_
 refine XO.q (Q.assign rfl) (XO.done ?_)
 refine XK.rt [blk b1 [vl] 105] Tryz.func133 Tryz.results133 (.t rfl .n) ?_
 exact ⟨b1, rfl, rfl⟩
abbrev resV (r : BRes) (ve vn : Value) : Value := .agg #[.int .i64 r.dark, ve, vn, .int .i64 r.served]
theorem dark_second {gens : List BGen} {sts : List Int} {t load : Int} {s : BSt} (h : 0 < (secondP gens sts t load true s).1) : (secondP gens sts t load true s).2 = s := by
 unfold secondP at h ⊢
 split
 ·rename_i h1
  rw [if_pos h1] at h
  split
  ·rfl
  ·rename_i h2
   rw [if_neg h2] at h
   exact absurd ⟨h, rfl⟩ h2
 ·rename_i h1
  rw [if_neg h1] at h
  exact absurd h h1
set_option maxHeartbeats 1000000 in
theorem run_nil (b : BBank) (vb vg : Value) (hb hg : PHeap) [ib : Arr vb encBat 4 hb b.bats] [ig : Arr vg encGen 5 hg b.gens] (l : List BSpan) (vl : Value) (hl : PHeap) [il : Arr vl encSpan 2 hl l] (fs : List Int) (vf : Value) (hf : PHeap) [jf : Arr vf encI 1 hf fs] (ok : BOk b) (lk : LOk l) (fk : FOk b fs) : Spec Tryz.prog 76 #[.agg #[vb, vg], vl, vf, .nilFunc] [] [hb, hg, hl, hf]
  (fun v hs => ∃ ve vn ke kn, v = resV (runP b (powers l) fs) ve vn ∧ hs = [ke, kn] ∧ OArr ve encI 1 3 ke (runP b (powers l) fs).energy ∧ OArr vn encI 1 3 kn (runP b (powers l) fs).burnt) := by
 have ln := lk.n
 have hpw := pwOk lk
 have pk := playOk ok fk
 have b0 := begun_ok ok fk
 have hst : ∀ i, i ≤ (powers l).length → StOk (startsP b fs) b.bats.length i (stateP b (powers l) fs true i) := fun i hi => playTo_ok pk hpw b0 true i hi
 have hla := fun i hi => lackAt_ok (i := i) pk hpw b0 true hi
 have hn2 := hpw.n
 have n8 := ok.nb
 refine Spec.intro (fn := Tryz.f76) (N := 47) Tryz.func76 rfl Tryz.ntmps76 rfl fun B => ?_
 refine XK.seq (XK.region rfl ?_)
 refine XO.box rfl fun b4 => ?_
 refine XO.box rfl fun b7 => ?_
 refine XO.alloc fun b8 => ?_
 refine XO.done (XK.seq (XK.region rfl ?_))
 refine XO.q (Q.ldA [_, _] rfl rfl rfl) ?_
 refine XO.q (Q.move rfl) ?_
 refine XO.call Tryz.call131 rfl rfl rfl (begin_spec b vb vg hb hg fs vf hf ok fk) fun v16 s16 R16 => ?_
 obtain ⟨p, vs, vc, vn, ks, kc, kn, rfl, rfl, OS, OC, ON⟩ := R16
 dsimp only [lcA, lnA]
 refine XO.alloc fun b9 => ?_
 refine XO.st rfl rfl rfl ?_
 refine XO.done (XK.seq (XK.region rfl ?_))
 refine XO.alloc fun b10 => ?_
 refine XO.st rfl rfl rfl ?_
 refine XO.done (XK.seq (XK.region rfl ?_))
 refine XO.q (Q.ld rfl rfl) ?_
 refine XO.q (Q.func (fun _ he => evs_rel he rfl) (fun _ he => rfl)) ?_
 refine XO.alloc fun b11 => ?_
 refine XO.st rfl rfl rfl ?_
 refine XO.done (XK.seq (XK.seq (XK.region rfl (XO.q (Q.move rfl) ?_))))
 refine XO.call Tryz.call133 rfl rfl rfl (seconds_spec vl) fun v20 s20 R20 => ?_
 obtain ⟨bs, rfl, rfl⟩ := R20
 dsimp only [lcA, lnA]
 refine XO.done (XK.block ?_)
 refine XK.range (X := Nat × Value × PHeap × PHeap × Int) (ps := [21, 22]) (secItems (powers l)) (fun ⟨m, vc1, kc1, kn1, dk⟩ => [blk p [vb, vg, vs, vc1, vn, .int .i64 (stateP b (powers l) fs true (m)).served] 282, kc1, kn1, blk b10 [.int .i64 dk] 3]) (fun i ⟨m, vc1, kc1, kn1, dk⟩ => m = i ∧ m ≤ (powers l).length ∧ dk = -1 ∧ OArr vc1 encCell 5 329 kc1 (stateP b (powers l) fs true (m)).cells ∧ OArr vn encI 1 3 kn1 (stateP b (powers l) fs true (m)).burnt ∧ (∀ j, j < m → isDark b (powers l) fs j = false)) (fun j0 ⟨m, vc1, kc1, kn1, dk⟩ => j0 = Code.exit 0 ∧ m < (powers l).length ∧ dk = m ∧ isDark b (powers l) fs m = true ∧ OArr vc1 encCell 5 329 kc1 (stateP b (powers l) fs true (m)).cells ∧ OArr vn encI 1 3 kn1 (stateP b (powers l) fs true (m)).burnt ∧ (∀ j, j < m → isDark b (powers l) fs j = false)) (0, vc, kc, kn, -1) [blk p [vb, vg, vs, vc, vn, .int .i64 0] 282, kc, kn, blk b10 [.int .i64 (-1)] 3] rfl ⟨rfl, by omega, rfl, OC, ON, fun j hj => by omega⟩ rfl (seconds1 bs l vl hl lk) rfl (secItems_two) ?_ ?_ ?_
 ·rintro lq rec B' i ⟨m, vc1, kc1, kn1, dk⟩ hi ⟨hmi, hm, hdk, C1, N1, D1⟩
  dsimp only [lcA, lnA]
  rw [secItems_len] at hi
  subst hmi
  subst hdk
  rw [secItems_at hi]
  dsimp only [pars]
  refine XK.seq (XK.region rfl (XO.q (Q.assign rfl) (XO.done (XK.region rfl (XO.q (Q.assign rfl) ?_)))))
  refine XO.done ?_
  refine XK.beginRound ?_
  refine XK.block (XK.seq (XK.seq (XK.region rfl ?_)))
  refine XO.q (Q.ld rfl rfl) ?_
  refine XO.q (Q.move rfl) (XO.q (Q.move rfl) ?_)
  refine XO.vcall rfl rfl (VSpec.fn (fst := [ptr p 0]) (cap := []) Tryz.call132 rfl (second_spec p vb vg vs vc1 vn b.gens (startsP b fs) pk hg ks (stateP b (powers l) fs true (m)) kc1 kn1 (hst m (by omega)) (by omega) ((m : Nat) : Int) (by omega) (by omega) ((powers l).getD m default) (hpw.p m (by omega)).1 (hpw.p m (by omega)).2 true)) fun v26 s26 R26 => ?_
  obtain ⟨vc2, kc2, kn2, rfl, rfl, C2, N2⟩ := R26
  dsimp only [lcA, lnA]
  have hd : isDark b (powers l) fs m = decide (0 < (secondP b.gens (startsP b fs) ((m : Nat) : Int) ((powers l).getD m default) true (stateP b (powers l) fs true (m))).1) := rfl
  have es : (secondP b.gens (startsP b fs) ((m : Nat) : Int) ((powers l).getD m default) true (stateP b (powers l) fs true (m))).2 = (stateP b (powers l) fs true (m + 1)) := rfl
  rw [es] at C2 N2 ⊢
  refine XO.q (Q.gtr rfl rfl) ?_
  refine XO.done ?_
  refine XK.if rfl (fun c0 => ?_) (fun c0 => ?_)
  ·skip
   refine XK.seq (XK.region rfl (XO.q (Q.move rfl) ?_))
   refine XO.st rfl rfl rfl ?_
   refine XO.done ?_
   have e : (stateP b (powers l) fs true (m + 1)) = (stateP b (powers l) fs true (m)) := dark_second c0
   rw [e] at C2 N2 ⊢
   exact XK.leave (j := some (.exit 0)) [blk p [vb, vg, vs, vc2, vn, .int .i64 (stateP b (powers l) fs true (m)).served] 282, kc2, kn2, blk b10 [.int .i64 ((m : Nat) : Int)] 3] ⟨rfl, rfl⟩ ⟨(m, vc2, kc2, kn2, (m : Int)), ⟨rfl, hi, rfl, by rw [hd]; exact decide_eq_true c0, C2, N2, D1⟩, rfl⟩
  ·skip
   refine XK.skip (XK.seq (XK.region rfl ?_))
   refine XO.q (Q.ld rfl rfl) ?_
   refine XO.q (Q.neqNilN rfl) ?_
   refine XO.done ?_
   refine XK.if rfl (fun c1 => ?_) (fun c1 => ?_)
   ·skip
    simp at c1
   ·skip
    refine XK.skip ?_
    refine XK.inBlock ?_
    exact XK.leave (j := none) [blk p [vb, vg, vs, vc2, vn, .int .i64 (stateP b (powers l) fs true (m + 1)).served] 282, kc2, kn2, blk b10 [.int .i64 (-1)] 3] trivial ⟨(m + 1, vc2, kc2, kn2, -1), ⟨rfl, by dsimp only; omega, rfl, C2, N2, fun j hj => (by rcases Nat.lt_or_ge j m with h3 | h3; exact D1 j h3; rw [show j = m by dsimp only at hj; omega, hd]; exact decide_eq_false c0)⟩, rfl⟩
 ·rintro ⟨m, vc1, kc1, kn1, dk⟩ ⟨hmi, hm, hdk, C1, N1, D1⟩
  dsimp only [lcA, lnA]
  rw [secItems_len] at hmi
  subst hdk
  refine XK.inBlock ?_
  refine XK.seq ?_
  refine XK.drawn [0, 1, 3, 4, 5, 6, 7, 8, 9, 10, 11] [b9, b10, p] [] (.q 0 (.q 1 (.q 3 (.q 4 (.q 5 (.q 6 (.q 7 (.q 8 (.q 9 (.q 10 (.br 2 true (.q 11 (.br 12 false .done .stop)) .stop))))))))))) Tryz.mixed rfl (by kernel_rfl) ?_
  refine XT.q rfl rfl (Q.ld rfl rfl) ?_
  refine XT.q rfl rfl (Q.ld rfl rfl) ?_
  refine XT.q rfl rfl (Q.ld rfl rfl) ?_
  refine XT.q rfl rfl (Q.nilCheck rfl) ?_
  refine XT.q rfl rfl (Q.fieldAddr rfl) ?_
  refine XT.q rfl rfl (Q.ld rfl rfl) ?_
  refine XT.q rfl rfl (Q.ld rfl rfl) ?_
  refine XT.q rfl rfl (Q.nilCheck rfl) ?_
  refine XT.q rfl rfl (Q.fieldAddr rfl) ?_
  refine XT.q rfl rfl (Q.ld rfl rfl) ?_
  refine XT.call rfl rfl Tryz.call134 rfl rfl rfl (energies_spec p vb vg vs vc1 vn (stateP b (powers l) fs true (m)).served kc1 (stateP b (powers l) fs true (m)).cells (by rw [(hst (m) (by omega)).c.len]; exact n8)) (fun v37 s37 R37 => ?_) XT.stop
  obtain ⟨k37, rfl, O37⟩ := R37
  dsimp only [lcA, lnA]
  refine ⟨inferInstance, ?_⟩
  refine XT.q rfl rfl (Q.build [_, _, _, _] (.c 0 1 rfl rfl rfl (.c 1 1 rfl rfl rfl (.c 2 1 rfl rfl rfl (.c 3 1 rfl rfl rfl (.n _)))))) ?_
  refine XT.st rfl rfl rfl rfl rfl ⟨inferInstance, ?_⟩ XT.stop
  refine XT.done ?_
  refine XK.rt [k37, kn1] Tryz.func76 Tryz.results76 (.cell [_, _, _, _] rfl rfl rfl (.n)) ?_
  subst hmi
  obtain ⟨er, ee⟩ := run_never D1
  rw [er]
  exact ⟨v37, vn, k37, kn1, rfl, rfl, O37, N1⟩
 ·rintro _ ⟨m, vc1, kc1, kn1, dk⟩ ⟨rfl, hm, hdk, hdm, C1, N1, D1⟩
  dsimp only [lcA, lnA]
  subst hdk
  refine XK.exit rfl ?_
  refine XK.seq ?_
  refine XK.drawn [0, 1, 3, 4, 5, 6, 7, 8, 9, 10, 11] [b9, b10, p] [] (.q 0 (.q 1 (.q 3 (.q 4 (.q 5 (.q 6 (.q 7 (.q 8 (.q 9 (.q 10 (.br 2 true (.q 11 (.br 12 false .done .stop)) .stop))))))))))) Tryz.mixed rfl (by kernel_rfl) ?_
  refine XT.q rfl rfl (Q.ld rfl rfl) ?_
  refine XT.q rfl rfl (Q.ld rfl rfl) ?_
  refine XT.q rfl rfl (Q.ld rfl rfl) ?_
  refine XT.q rfl rfl (Q.nilCheck rfl) ?_
  refine XT.q rfl rfl (Q.fieldAddr rfl) ?_
  refine XT.q rfl rfl (Q.ld rfl rfl) ?_
  refine XT.q rfl rfl (Q.ld rfl rfl) ?_
  refine XT.q rfl rfl (Q.nilCheck rfl) ?_
  refine XT.q rfl rfl (Q.fieldAddr rfl) ?_
  refine XT.q rfl rfl (Q.ld rfl rfl) ?_
  refine XT.call rfl rfl Tryz.call134 rfl rfl rfl (energies_spec p vb vg vs vc1 vn (stateP b (powers l) fs true (m)).served kc1 (stateP b (powers l) fs true (m)).cells (by rw [(hst (m) (by omega)).c.len]; exact n8)) (fun v37 s37 R37 => ?_) XT.stop
  obtain ⟨k37, rfl, O37⟩ := R37
  dsimp only [lcA, lnA]
  refine ⟨inferInstance, ?_⟩
  refine XT.q rfl rfl (Q.build [_, _, _, _] (.c 0 1 rfl rfl rfl (.c 1 1 rfl rfl rfl (.c 2 1 rfl rfl rfl (.c 3 1 rfl rfl rfl (.n _)))))) ?_
  refine XT.st rfl rfl rfl rfl rfl ⟨inferInstance, ?_⟩ XT.stop
  refine XT.done ?_
  refine XK.rt [k37, kn1] Tryz.func76 Tryz.results76 (.cell [_, _, _, _] rfl rfl rfl (.n)) ?_
  obtain ⟨er, ee⟩ := run_here hm D1 hdm
  rw [er]
  exact ⟨v37, vn, k37, kn1, rfl, rfl, O37, N1⟩
end Go.X.Bk

set_option linter.unusedSimpArgs false
set_option linter.unusedVariables false
set_option maxRecDepth 20000
namespace Go.X.Bk
open Go.Proofs
theorem Run_spec (b : BBank) (vb vg : Value) (hb hg : PHeap) [ib : Arr vb encBat 4 hb b.bats] [ig : Arr vg encGen 5 hg b.gens] (l : List BSpan) (vl : Value) (hl : PHeap) [il : Arr vl encSpan 2 hl l] (fs : List Int) (vf : Value) (hf : PHeap) [jf : Arr vf encI 1 hf fs] : Spec Tryz.prog 29 #[.agg #[vb, vg], vl, vf] [] [hb, hg, hl, hf] (fun v hs => ∃ ve vn ke kn, v = .tuple #[resV (if readyP b l fs = 0 then runP b (powers l) fs else ⟨0, [], [], 0⟩) ve vn, .int .i64 (readyP b l fs)] ∧ hs = [ke, kn] ∧ OArr ve encI 1 3 ke (if readyP b l fs = 0 then runP b (powers l) fs else ⟨0, [], [], 0⟩).energy ∧ OArr vn encI 1 3 kn (if readyP b l fs = 0 then runP b (powers l) fs else ⟨0, [], [], 0⟩).burnt) := by
 refine Spec.intro (fn := Tryz.f29) (N := 21) Tryz.func29 rfl Tryz.ntmps29 rfl fun B => ?_
 refine XK.seq (XK.region rfl ?_)
 refine XO.box rfl fun b3 => ?_
 refine XO.alloc fun b6 => ?_
 refine XO.q (Q.assign rfl) (XO.done (XK.seq (XK.seq (XK.region rfl ?_))))
 refine XO.q (Q.ldA [_, _] rfl rfl rfl) ?_
 refine XO.q (Q.move rfl) (XO.q (Q.move rfl) ?_)
 refine XO.call Tryz.call75 rfl rfl rfl (ready_spec b vb vg hb hg l vl hl fs vf hf) fun v12 s12 R12 => ?_
 obtain ⟨rfl, rfl⟩ := R12
 dsimp only [lcA, lnA]
 refine XO.q (Q.assign rfl) (XO.done (XK.seq (XK.region rfl (XO.q (Q.move rfl) ?_))))
 refine XO.q (Q.neq rfl rfl) ?_
 refine XO.done ?_
 refine XK.if rfl (fun c0 => ?_) (fun c0 => ?_)
 ·skip
  refine XK.seq (XK.region rfl ?_)
  refine XO.q (Q.build [_, _, _, _] (.n _)) ?_
  refine XO.q (Q.move rfl) ?_
  refine XO.st rfl rfl rfl ?_
  refine XO.q (Q.assign rfl) (XO.done ?_)
  refine XK.rt [emp, emp] Tryz.func29 Tryz.results29 (.cell [_, _, _, _] rfl rfl rfl (.t rfl .n)) ?_
  rw [if_neg c0]
  exact ⟨.slice none 0 0, .slice none 0 0, emp, emp, rfl, rfl, OArr.nil (fun _ => rfl), OArr.nil (fun _ => rfl)⟩
 ·skip
  refine XK.skip (XK.seq (XK.region rfl ?_))
  refine XO.q (Q.ldA [_, _] rfl rfl rfl) ?_
  refine XO.q (Q.move rfl) (XO.q (Q.move rfl) ?_)
  have rk := readyP_iff.1 (Decidable.of_not_not c0)
  refine XO.call Tryz.call76 rfl rfl rfl (run_nil b vb vg hb hg l vl hl fs vf hf rk.ob rk.ol rk.of) fun v20 s20 R20 => ?_
  obtain ⟨ve, vn, ke, kn, rfl, rfl, OE, OB⟩ := R20
  dsimp only [lcA, lnA]
  refine XO.st rfl rfl rfl ?_
  refine XO.q (Q.assign rfl) (XO.done ?_)
  refine XK.rt [ke, kn] Tryz.func29 Tryz.results29 (.cell [_, _, _, _] rfl rfl rfl (.t rfl .n)) ?_
  have e0 := Decidable.of_not_not c0
  rw [if_pos e0, e0]
  exact ⟨ve, vn, ke, kn, rfl, rfl, OE, OB⟩
end Go.X.Bk

set_option linter.unusedSimpArgs false
set_option linter.unusedVariables false
set_option maxRecDepth 20000
namespace Go.X.Ht
open Go.Proofs
def encRoom (x : HRoom) : List Value := [.int .i64 x.store, .int .i64 x.limit]
def encWall (x : HWall) : List Value := [.int .i64 x.a, .int .i64 x.b, .int .i64 x.pass]
def encBranch (x : HBranch) : List Value := [.int .i64 x.up, .int .i64 x.opn, .int .i64 x.leak]
def encCooler (x : HCooler) : List Value := [.int .i64 x.room, .int .i64 x.br, .int .i64 x.gain, .int .i64 x.carry, .int .i64 x.supply]
theorem okRoom_iff {x : HRoom} : okRoom x = true ↔ ¬ ((x.store < 1 ∨ 1000000 < x.store) ∨ ¬ inP x.limit 1000000 = true) := by
 simp only [okRoom, Bool.and_eq_true, decide_eq_true_eq, not_or, Classical.not_not]
 constructor <;> rintro ⟨⟨a, b⟩, c⟩ <;> exact ⟨⟨by omega, by omega⟩, c⟩
theorem okWall_iff {n : Nat} {x : HWall} : okWall n x = true ↔ ¬ (((¬ ixP x.a n = true ∨ x.b ≠ -1 ∧ ¬ ixP x.b n = true) ∨ x.a = x.b) ∨ ¬ inP x.pass 100000 = true) := by
 simp only [okWall, Bool.and_eq_true, Bool.or_eq_true, decide_eq_true_eq, not_or, Classical.not_not, not_and]
 constructor
 ·rintro ⟨⟨⟨a, b⟩, c⟩, d⟩
  exact ⟨⟨⟨a, fun h => b.resolve_left h⟩, c⟩, d⟩
 ·rintro ⟨⟨⟨a, b⟩, c⟩, d⟩
  exact ⟨⟨⟨a, if h : x.b = -1 then .inl h else .inr (b h)⟩, c⟩, d⟩
theorem okBranch_iff {i : Nat} {x : HBranch} : okBranch i x = true ↔ ¬ ((((i : Int) = 0 ∧ x.up ≠ -1 ∨ (0 : Int) < i ∧ ¬ ixP x.up i = true) ∨ ¬ inP x.opn 100 = true) ∨ ¬ inP x.leak 100000 = true) := by
 unfold okBranch
 by_cases h : i = 0
 ·subst h; simp [and_assoc]
 ·have h1 : ¬ (i : Int) = 0 := by omega
  have h2 : (0 : Int) < i := by omega
  have h3 : 0 < i := by omega
  simp [h, h2, h3, and_assoc]
theorem okCooler_iff {n m : Nat} {x : HCooler} : okCooler n m x = true ↔ ¬ ((((¬ ixP x.room n = true ∨ ¬ ixP x.br m = true) ∨ ¬ inP x.gain 100000 = true) ∨ ¬ inP x.carry 1000 = true) ∨ ¬ inP x.supply 1000000 = true) := by
 simp only [okCooler, Bool.and_eq_true, not_or, Classical.not_not]
theorem in_spec (n m : Int) : Spec Tryz.prog 61 #[.int .i64 n, .int .i64 m] [] [] (fun v hs => v = .bool (inP n m) ∧ hs = []) := by
 refine Spec.intro (fn := Tryz.f61) (N := 12) Tryz.func61 rfl Tryz.ntmps61 rfl fun B => ?_
 refine XK.seq (XK.region rfl (XO.q (Q.assign rfl) (XO.done (XK.seq (XK.region rfl ?_)))))
 refine XO.q (Q.move rfl) ?_
 refine XO.q (Q.geq rfl rfl) ?_
 refine XO.q (Q.move rfl) ?_
 refine XO.q (Quiet.guardT rfl rfl fun g8 p8 => Q.move rfl) ?_
 refine XO.q (Quiet.guardT rfl rfl fun g9 p9 => Q.move rfl) ?_
 refine XO.q (Quiet.guardT rfl rfl fun g10 p10 => Q.leq (lzv g10 rfl) (lzv g10 rfl)) ?_
 refine XO.q (Q.and rfl (fun hp => lzv hp rfl)) ?_
 refine XO.q (Q.assign rfl) (XO.done ?_)
 refine XK.rt [] Tryz.func61 Tryz.results61 (.t rfl .n) ?_
 exact ⟨rfl, rfl⟩
theorem indexRoom (n : Int) (v : Value) (hh : PHeap) (xs : List HRoom) [s : Arr v encRoom 2 hh xs] : Spec Tryz.prog 163 #[.int .i64 n, v] [] [hh] (fun v hs => v = .bool (ixP n xs.length) ∧ hs = []) := by
 refine Spec.intro (fn := Tryz.f163) (N := 13) Tryz.func163 rfl Tryz.ntmps163 rfl fun B => ?_
 refine XK.seq (XK.region rfl (XO.q (Q.assign rfl) (XO.done (XK.seq (XK.region rfl ?_)))))
 refine XO.q (Q.move rfl) ?_
 refine XO.q (Q.geq rfl rfl) ?_
 refine XO.q (Q.move rfl) ?_
 refine XO.q (Quiet.guardT rfl rfl fun g8 p8 => Q.move rfl) ?_
 refine XO.q (Quiet.guardT rfl rfl fun g9 p9 => Q.move rfl) ?_
 refine XO.q (Quiet.guardT rfl rfl fun g10 p10 => Q.len (lzv g10 rfl)) ?_
 refine XO.q (Quiet.guardT rfl rfl fun g11 p11 => Q.lss (lzv g11 rfl) (lzv g11 rfl)) ?_
 refine XO.q (Q.and rfl (fun hp => lzv hp rfl)) ?_
 refine XO.q (Q.assign rfl) (XO.done ?_)
 refine XK.rt [] Tryz.func163 Tryz.results163 (.t rfl .n) ?_
 exact ⟨rfl, rfl⟩
theorem indexBranch (n : Int) (v : Value) (hh : PHeap) (xs : List HBranch) [s : Arr v encBranch 3 hh xs] : Spec Tryz.prog 164 #[.int .i64 n, v] [] [hh] (fun v hs => v = .bool (ixP n xs.length) ∧ hs = []) := by
 refine Spec.intro (fn := Tryz.f164) (N := 13) Tryz.func164 rfl Tryz.ntmps164 rfl fun B => ?_
 refine XK.seq (XK.region rfl (XO.q (Q.assign rfl) (XO.done (XK.seq (XK.region rfl ?_)))))
 refine XO.q (Q.move rfl) ?_
 refine XO.q (Q.geq rfl rfl) ?_
 refine XO.q (Q.move rfl) ?_
 refine XO.q (Quiet.guardT rfl rfl fun g8 p8 => Q.move rfl) ?_
 refine XO.q (Quiet.guardT rfl rfl fun g9 p9 => Q.move rfl) ?_
 refine XO.q (Quiet.guardT rfl rfl fun g10 p10 => Q.len (lzv g10 rfl)) ?_
 refine XO.q (Quiet.guardT rfl rfl fun g11 p11 => Q.lss (lzv g11 rfl) (lzv g11 rfl)) ?_
 refine XO.q (Q.and rfl (fun hp => lzv hp rfl)) ?_
 refine XO.q (Q.assign rfl) (XO.done ?_)
 refine XK.rt [] Tryz.func164 Tryz.results164 (.t rfl .n) ?_
 exact ⟨rfl, rfl⟩
theorem indexCut (n : Int) (v : Value) (hh : PHeap) (xs : List HBranch) [s : Arr v encBranch 3 hh xs] (i : Nat) (hi : i ≤ xs.length) : Spec Tryz.prog 164 #[.int .i64 n, cutv v 3 0 i] [] [hh] (fun v hs => v = .bool (ixP n i) ∧ hs = []) := by
 haveI := Arr.cut s (i := 0) (j := i) (by omega) hi
 have h := indexBranch n (cutv v 3 0 i) hh ((xs.drop 0).take (i - 0))
 rwa [List.drop_zero, Nat.sub_zero, List.length_take, Nat.min_eq_left hi] at h
theorem allowed_spec (h : Hall) (vr vw vb vc : Value) (hr hw hb hc : PHeap) [ir : Arr vr encRoom 2 hr h.rooms] [iw : Arr vw encWall 3 hw h.walls] [ib : Arr vb encBranch 3 hb h.branches] [ic : Arr vc encCooler 5 hc h.coolers] : Spec Tryz.prog 106 #[.agg #[vr, vw, vb, vc]] [] [hr, hw, hb, hc] (fun v hs => v = .bool (allowedP h) ∧ hs = []) := by
 have lr := ir.le
 have lw := iw.le
 have lb := ib.le
 have lc := ic.le
 refine Spec.intro (fn := Tryz.f106) (N := 155) Tryz.func106 rfl Tryz.ntmps106 rfl fun B => ?_
 refine XK.seq (XK.region rfl ?_)
 refine XO.box rfl fun b1 => ?_
 refine XO.q (Q.assign rfl) (XO.done (XK.seq (XK.seq (XK.region rfl ?_))))
 refine XO.q (Q.fieldAddr rfl) ?_
 refine XO.q (Q.ld rfl rfl) ?_
 refine XO.len rfl fun l13 => ?_
 refine XO.q (Q.move rfl) (XO.done (XK.block ?_))
 refine XK.while (X := Nat) [2, 4, 14, 15, 16, 17, 18, 19, 20, 21, 22, 23, 24, 25, 26, 27, 28, 29, 30, 31, 32] (fun i => [(14, some (.int .i64 (i : Nat)))]) (fun i => []) (fun i => i ≤ h.rooms.length ∧ roomsOk h i = true) (fun i => h.rooms.length - i) (0) [] rfl ⟨by omega, rfl⟩ (.c rfl (.base 0 rfl rfl)) ?_
 rintro i ⟨hi, hall⟩ ih0
 dsimp only [lcA, lnA] at ih0 ⊢
 refine XK.seq (XK.region rfl ?_)
 refine XO.q (Q.lss rfl rfl) ?_
 refine XO.done (XK.seq ?_)
 refine XK.if rfl (fun c0 => ?_) (fun c0 => ?_)
 ·skip
  refine XK.skip (XK.seq (XK.block (XK.seq (XK.region rfl ?_))))
  refine XO.ix rfl rfl (by omega) (by omega) fun i16 => ?_
  refine XO.q (Q.ldEA [_, _] rfl (by first | assumption | omega) rfl rfl) ?_
  refine XO.alloc fun b4 => ?_
  refine XO.st rfl rfl rfl ?_
  refine XO.done (XK.seq (XK.region rfl ?_))
  refine XO.q (Q.fieldAddr rfl) ?_
  refine XO.q (Q.ld rfl rfl) ?_
  refine XO.q (Q.lss rfl rfl) ?_
  refine XO.q (Q.move rfl) ?_
  refine XO.q (Quiet.guardF rfl rfl fun g22 p22 => Q.fieldAddr rfl) ?_
  refine XO.q (Quiet.guardF rfl rfl fun g23 p23 => Q.ld (lzv g23 rfl) rfl) ?_
  refine XO.q (Quiet.guardF rfl rfl fun g24 p24 => Q.gtr (lzv g24 rfl) rfl) ?_
  refine XO.q (Q.or rfl (fun hp => lzv hp rfl)) ?_
  refine XO.q (Q.move rfl) ?_
  refine XO.q (Quiet.guardF rfl rfl fun g27 p27 => Q.fieldAddr rfl) ?_
  refine XO.q (Quiet.guardF rfl rfl fun g28 p28 => Q.ld (lzv g28 rfl) rfl) ?_
  refine XO.gcallF rfl rfl Tryz.call61 rfl (fun g29 => .c (lzv g29 rfl) (.c rfl .n)) rfl (fun g29 p29 => in_spec _ _) ?_
  refine XO.q (Quiet.guardF rfl rfl fun g30 p30 => Q.not (lzv g30 rfl)) ?_
  refine XO.q (Q.or rfl (fun hp => lzv hp rfl)) ?_
  refine XO.done ?_
  refine XK.if rfl (fun c1 => ?_) (fun c1 => ?_)
  ·skip
   refine XK.seq (XK.region rfl (XO.q (Q.assign rfl) (XO.done ?_)))
   refine XK.rt [] Tryz.func106 Tryz.results106 (.t rfl .n) ?_
   have hb : roomsOk h h.rooms.length = false := allTo_false (s := i) (by omega) (by rw [Bool.eq_false_iff]; intro h; exact (okRoom_iff.1 h) c1)
   exact ⟨by simp [allowedP, hb], rfl⟩
  ·skip
   refine XK.skip ?_
   refine XK.inBlock ?_
   refine XK.region rfl ?_
   refine XO.q (Q.add rfl rfl ⟨by omega, by omega⟩) ?_
   refine XO.q (Q.move rfl) (XO.done ?_)
   exact ih0 (i + 1) _ _ ⟨by omega, by rw [roomsOk, allTo_succ]; rw [roomsOk] at hall; rw [hall, Bool.true_and]; exact okRoom_iff.2 c1⟩ (by first | omega | (dsimp only; omega)) (.c rfl (.base 42 rfl rfl)) inferInstance
 ·skip
  have e1 : roomsOk h h.rooms.length = true := by rw [show h.rooms.length = i by omega]; exact hall
  clear ih0 hall hi c0
  refine XK.exit rfl ?_
  refine XK.seq (XK.seq (XK.region rfl ?_))
  refine XO.q (Q.fieldAddr rfl) ?_
  refine XO.q (Q.ld rfl rfl) ?_
  refine XO.len rfl fun l35 => ?_
  refine XO.q (Q.move rfl) (XO.done (XK.block ?_))
  refine XK.while (X := Nat) [2, 6, 36, 37, 38, 39, 40, 41, 42, 43, 44, 45, 46, 47, 48, 49, 50, 51, 52, 53, 54, 55, 56, 57, 58, 59, 60, 61, 62, 63, 64, 65, 66, 67, 68, 69, 70, 71, 72] (fun i => [(36, some (.int .i64 (i : Nat)))]) (fun i => []) (fun i => i ≤ h.walls.length ∧ wallsOk h i = true) (fun i => h.walls.length - i) (0) [] rfl ⟨by omega, rfl⟩ (.c rfl (.base 0 rfl rfl)) ?_
  rintro i ⟨hi, hall⟩ ih1
  dsimp only [lcA, lnA] at ih1 ⊢
  refine XK.seq (XK.region rfl ?_)
  refine XO.q (Q.lss rfl rfl) ?_
  refine XO.done (XK.seq ?_)
  refine XK.if rfl (fun c2 => ?_) (fun c2 => ?_)
  ·skip
   refine XK.skip (XK.seq (XK.block (XK.seq (XK.region rfl ?_))))
   refine XO.ix rfl rfl (by omega) (by omega) fun i38 => ?_
   refine XO.q (Q.ldEA [_, _, _] rfl (by first | assumption | omega) rfl rfl) ?_
   refine XO.alloc fun b6 => ?_
   refine XO.st rfl rfl rfl ?_
   refine XO.done (XK.seq (XK.region rfl ?_))
   refine XO.q (Q.fieldAddr rfl) ?_
   refine XO.q (Q.ld rfl rfl) ?_
   refine XO.q (Q.fieldAddr rfl) ?_
   refine XO.q (Q.ld rfl rfl) ?_
   refine XO.call Tryz.call163 rfl rfl rfl (indexRoom _ vr hr h.rooms) fun v44 s44 R44 => ?_
   obtain ⟨rfl, rfl⟩ := R44
   dsimp only [lcA, lnA]
   refine XO.q (Q.not rfl) ?_
   refine XO.q (Q.move rfl) ?_
   refine XO.q (Quiet.guardF rfl rfl fun g47 p47 => Q.fieldAddr rfl) ?_
   refine XO.q (Quiet.guardF rfl rfl fun g48 p48 => Q.ld (lzv g48 rfl) rfl) ?_
   refine XO.q (Quiet.guardF rfl rfl fun g49 p49 => Q.neq (lzv g49 rfl) rfl) ?_
   refine XO.q (Quiet.guardF rfl rfl fun g50 p50 => Q.move (lzv g50 rfl)) ?_
   refine XO.q (Quiet.guard2 rfl rfl fun g51a g51b => have p51a := bpF g51a; have p51b := bpT g51b; Q.fieldAddr rfl) ?_
   refine XO.q (Quiet.guard2 rfl rfl fun g52a g52b => have p52a := bpF g52a; have p52b := bpT g52b; Q.ld (lzv g52b (lzv g52a rfl)) rfl) ?_
   refine XO.q (Quiet.guard2 rfl rfl fun g53a g53b => have p53a := bpF g53a; have p53b := bpT g53b; Q.fieldAddr rfl) ?_
   refine XO.q (Quiet.guard2 rfl rfl fun g54a g54b => have p54a := bpF g54a; have p54b := bpT g54b; Q.ld (lzv g54b (lzv g54a rfl)) rfl) ?_
   refine XO.vg2 rfl rfl (fun g55a g55b => rfl) (fun g55a g55b => .c (lzv g55b (lzv g55a rfl)) (.c (lzv g55b (lzv g55a rfl)) .n)) (fun g55a g55b => have p55a := bpF g55a; have p55b := bpT g55b; VSpec.fn (P := Tryz.prog) Tryz.call163 rfl (indexRoom _ vr hr h.rooms)) ?_
   refine XO.q (Quiet.guard2 rfl rfl fun g56a g56b => have p56a := bpF g56a; have p56b := bpT g56b; Q.not (lzv g56b (lzv g56a rfl))) ?_
   refine XO.q (Quiet.guardF rfl rfl fun g57 p57 => Q.and (lzv g57 rfl) (fun hp => (lzv hp (lzv g57 rfl)))) ?_
   refine XO.q (Q.or rfl (fun hp => lzv hp rfl)) ?_
   refine XO.q (Q.move rfl) ?_
   refine XO.q (Quiet.guardF rfl rfl fun g60 p60 => Q.fieldAddr rfl) ?_
   refine XO.q (Quiet.guardF rfl rfl fun g61 p61 => Q.ld (lzv g61 rfl) rfl) ?_
   refine XO.q (Quiet.guardF rfl rfl fun g62 p62 => Q.fieldAddr rfl) ?_
   refine XO.q (Quiet.guardF rfl rfl fun g63 p63 => Q.ld (lzv g63 rfl) rfl) ?_
   refine XO.q (Quiet.guardF rfl rfl fun g64 p64 => Q.eql (lzv g64 rfl) (lzv g64 rfl)) ?_
   refine XO.q (Q.or rfl (fun hp => lzv hp rfl)) ?_
   refine XO.q (Q.move rfl) ?_
   refine XO.q (Quiet.guardF rfl rfl fun g67 p67 => Q.fieldAddr rfl) ?_
   refine XO.q (Quiet.guardF rfl rfl fun g68 p68 => Q.ld (lzv g68 rfl) rfl) ?_
   refine XO.gcallF rfl rfl Tryz.call61 rfl (fun g69 => .c (lzv g69 rfl) (.c rfl .n)) rfl (fun g69 p69 => in_spec _ _) ?_
   refine XO.q (Quiet.guardF rfl rfl fun g70 p70 => Q.not (lzv g70 rfl)) ?_
   refine XO.q (Q.or rfl (fun hp => lzv hp rfl)) ?_
   refine XO.done ?_
   refine XK.if rfl (fun c3 => ?_) (fun c3 => ?_)
   ·skip
    refine XK.seq (XK.region rfl (XO.q (Q.assign rfl) (XO.done ?_)))
    refine XK.rt [] Tryz.func106 Tryz.results106 (.t rfl .n) ?_
    have hb : wallsOk h h.walls.length = false := allTo_false (s := i) (by omega) (by rw [Bool.eq_false_iff]; intro h; exact (okWall_iff.1 h) c3)
    exact ⟨by simp [allowedP, hb], rfl⟩
   ·skip
    refine XK.skip ?_
    refine XK.inBlock ?_
    refine XK.region rfl ?_
    refine XO.q (Q.add rfl rfl ⟨by omega, by omega⟩) ?_
    refine XO.q (Q.move rfl) (XO.done ?_)
    exact ih1 (i + 1) _ _ ⟨by omega, by rw [wallsOk, allTo_succ]; rw [wallsOk] at hall; rw [hall, Bool.true_and]; exact okWall_iff.2 c3⟩ (by first | omega | (dsimp only; omega)) (.c rfl (.base 78 rfl rfl)) inferInstance
  ·skip
   have e2 : wallsOk h h.walls.length = true := by rw [show h.walls.length = i by omega]; exact hall
   clear ih1 hall hi c2
   refine XK.exit rfl ?_
   refine XK.seq (XK.seq (XK.region rfl ?_))
   refine XO.q (Q.fieldAddr rfl) ?_
   refine XO.q (Q.ld rfl rfl) ?_
   refine XO.len rfl fun l75 => ?_
   refine XO.q (Q.move rfl) (XO.done (XK.block ?_))
   refine XK.while (X := Nat) [2, 7, 8, 76, 77, 78, 79, 80, 81, 82, 83, 84, 85, 86, 87, 88, 89, 90, 91, 92, 93, 94, 95, 96, 97, 98, 99, 100, 101, 102, 103, 104, 105, 106, 107, 108, 109, 110, 111, 112, 113, 114] (fun i => [(76, some (.int .i64 (i : Nat)))]) (fun i => []) (fun i => i ≤ h.branches.length ∧ branchesOk h i = true) (fun i => h.branches.length - i) (0) [] rfl ⟨by omega, rfl⟩ (.c rfl (.base 0 rfl rfl)) ?_
   rintro i ⟨hi, hall⟩ ih2
   dsimp only [lcA, lnA] at ih2 ⊢
   refine XK.seq (XK.region rfl ?_)
   refine XO.q (Q.lss rfl rfl) ?_
   refine XO.done (XK.seq ?_)
   refine XK.if rfl (fun c4 => ?_) (fun c4 => ?_)
   ·skip
    refine XK.skip (XK.seq (XK.block (XK.seq (XK.region rfl (XO.q (Q.move rfl) ?_)))))
    refine XO.ix rfl rfl (by omega) (by omega) fun i79 => ?_
    refine XO.q (Q.ldEA [_, _, _] rfl (by first | assumption | omega) rfl rfl) ?_
    refine XO.alloc fun b8 => ?_
    refine XO.q (Q.assign rfl) ?_
    refine XO.st rfl rfl rfl ?_
    refine XO.done (XK.seq ?_)
    refine XK.drawn [0, 1, 2, 3, 4, 5, 6, 7, 8, 9, 10, 11, 12, 13, 14, 15, 16, 18, 19, 20, 21, 22, 23, 25, 26, 27, 28, 29, 31, 32] [b8, b1] [] (.q 0 (.q 1 (.q 2 (.q 3 (.q 4 (.q 5 (.q 6 (.q 7 (.q 8 (.q 9 (.q 10 (.q 11 (.q 12 (.q 13 (.q 14 (.q 15 (.q 16 (.br 17 true (.q 18 (.q 19 (.q 20 (.q 21 (.q 22 (.q 23 (.br 24 true (.q 25 (.q 26 (.q 27 (.q 28 (.q 29 (.br 30 true (.q 31 (.q 32 .done)) .stop)))))) .stop))))))) .stop)))))))))))))))))) Tryz.mixed rfl (by kernel_rfl) ?_
    refine XT.q rfl rfl (Q.move rfl) ?_
    refine XT.q rfl rfl (Q.eql rfl rfl) ?_
    refine XT.q rfl rfl (Q.move rfl) ?_
    refine XT.q rfl rfl (Quiet.guardT rfl rfl fun g84 p84 => Q.fieldAddr rfl) ?_
    refine XT.q rfl rfl (Quiet.guardT rfl rfl fun g85 p85 => Q.ld (lzv g85 rfl) rfl) ?_
    refine XT.q rfl rfl (Quiet.guardT rfl rfl fun g86 p86 => Q.neq (lzv g86 rfl) rfl) ?_
    refine XT.q rfl rfl (Q.and rfl (fun hp => lzv hp rfl)) ?_
    refine XT.q rfl rfl (Q.move rfl) ?_
    refine XT.q rfl rfl (Quiet.guardF rfl rfl fun g89 p89 => Q.move rfl) ?_
    refine XT.q rfl rfl (Quiet.guardF rfl rfl fun g90 p90 => Q.gtr (lzv g90 rfl) rfl) ?_
    refine XT.q rfl rfl (Quiet.guardF rfl rfl fun g91 p91 => Q.move (lzv g91 rfl)) ?_
    refine XT.q rfl rfl (Quiet.guard2 rfl rfl fun g92a g92b => have p92a := bpF g92a; have p92b := bpT g92b; Q.fieldAddr rfl) ?_
    refine XT.q rfl rfl (Quiet.guard2 rfl rfl fun g93a g93b => have p93a := bpF g93a; have p93b := bpT g93b; Q.ld (lzv g93b (lzv g93a rfl)) rfl) ?_
    refine XT.q rfl rfl (Quiet.guard2 rfl rfl fun g94a g94b => have p94a := bpF g94a; have p94b := bpT g94b; Q.fieldAddr rfl) ?_
    refine XT.q rfl rfl (Quiet.guard2 rfl rfl fun g95a g95b => have p95a := bpF g95a; have p95b := bpT g95b; Q.ld (lzv g95b (lzv g95a rfl)) rfl) ?_
    refine XT.q rfl rfl (Quiet.guard2 rfl rfl fun g96a g96b => have p96a := bpF g96a; have p96b := bpT g96b; Q.move rfl) ?_
    refine XT.q rfl rfl (Quiet.guard2 rfl rfl fun g97a g97b => have p97a := bpF g97a; have p97b := bpT g97b; Q.cut (i := 0) (j := i) (lzv g97b (lzv g97a rfl)) .n (.s (lzv g97b (lzv g97a rfl)) (by omega)) (by omega) (by omega)) ?_
    refine XT.vg2 rfl rfl rfl rfl (fun g98a g98b => rfl) (fun g98a g98b => .c (lzv g98b (lzv g98a rfl)) (.c (lzv g98b (lzv g98a rfl)) .n)) (fun g98a g98b => have p98a := bpF g98a; have p98b := bpT g98b; VSpec.fn (P := Tryz.prog) Tryz.call164 rfl (indexCut _ vb hb h.branches i (by omega))) ⟨inferInstance, ?_⟩ XT.stop
    refine XT.q rfl rfl (Quiet.guard2 rfl rfl fun g99a g99b => have p99a := bpF g99a; have p99b := bpT g99b; Q.not (lzv g99b (lzv g99a rfl))) ?_
    refine XT.q rfl rfl (Quiet.guardF rfl rfl fun g100 p100 => Q.and (lzv g100 rfl) (fun hp => (lzv hp (lzv g100 rfl)))) ?_
    refine XT.q rfl rfl (Q.or rfl (fun hp => lzv hp rfl)) ?_
    refine XT.q rfl rfl (Q.move rfl) ?_
    refine XT.q rfl rfl (Quiet.guardF rfl rfl fun g103 p103 => Q.fieldAddr rfl) ?_
    refine XT.q rfl rfl (Quiet.guardF rfl rfl fun g104 p104 => Q.ld (lzv g104 rfl) rfl) ?_
    refine XT.gcallF rfl rfl rfl rfl Tryz.call61 rfl (fun g105 => .c (lzv g105 rfl) (.c rfl .n)) rfl (fun g105 p105 => in_spec _ _) ⟨inferInstance, ?_⟩ XT.stop
    refine XT.q rfl rfl (Quiet.guardF rfl rfl fun g106 p106 => Q.not (lzv g106 rfl)) ?_
    refine XT.q rfl rfl (Q.or rfl (fun hp => lzv hp rfl)) ?_
    refine XT.q rfl rfl (Q.move rfl) ?_
    refine XT.q rfl rfl (Quiet.guardF rfl rfl fun g109 p109 => Q.fieldAddr rfl) ?_
    refine XT.q rfl rfl (Quiet.guardF rfl rfl fun g110 p110 => Q.ld (lzv g110 rfl) rfl) ?_
    refine XT.gcallF rfl rfl rfl rfl Tryz.call61 rfl (fun g111 => .c (lzv g111 rfl) (.c rfl .n)) rfl (fun g111 p111 => in_spec _ _) ⟨inferInstance, ?_⟩ XT.stop
    refine XT.q rfl rfl (Quiet.guardF rfl rfl fun g112 p112 => Q.not (lzv g112 rfl)) ?_
    refine XT.q rfl rfl (Q.or rfl (fun hp => lzv hp rfl)) ?_
    refine XT.done ?_
    refine XK.if rfl (fun c5 => ?_) (fun c5 => ?_)
    ·skip
     refine XK.seq (XK.region rfl (XO.q (Q.assign rfl) (XO.done ?_)))
     refine XK.rt [] Tryz.func106 Tryz.results106 (.t rfl .n) ?_
     have hb : branchesOk h h.branches.length = false := allTo_false (s := i) (by omega) (by rw [Bool.eq_false_iff]; intro h; exact (okBranch_iff.1 h) c5)
     exact ⟨by simp [allowedP, hb], rfl⟩
    ·skip
     refine XK.skip ?_
     refine XK.inBlock ?_
     refine XK.region rfl ?_
     refine XO.q (Q.add rfl rfl ⟨by omega, by omega⟩) ?_
     refine XO.q (Q.move rfl) (XO.done ?_)
     exact ih2 (i + 1) _ _ ⟨by omega, by rw [branchesOk, allTo_succ]; rw [branchesOk] at hall; rw [hall, Bool.true_and]; exact okBranch_iff.2 c5⟩ (by first | omega | (dsimp only; omega)) (.c rfl (.base 84 rfl rfl)) inferInstance
   ·skip
    have e3 : branchesOk h h.branches.length = true := by rw [show h.branches.length = i by omega]; exact hall
    clear ih2 hall hi c4
    refine XK.exit rfl ?_
    refine XK.seq (XK.seq (XK.region rfl ?_))
    refine XO.q (Q.fieldAddr rfl) ?_
    refine XO.q (Q.ld rfl rfl) ?_
    refine XO.len rfl fun l117 => ?_
    refine XO.q (Q.move rfl) (XO.done (XK.block ?_))
    refine XK.while (X := Nat) [2, 10, 118, 119, 120, 121, 122, 123, 124, 125, 126, 127, 128, 129, 130, 131, 132, 133, 134, 135, 136, 137, 138, 139, 140, 141, 142, 143, 144, 145, 146, 147, 148, 149, 150, 151, 152, 153, 154] (fun i => [(118, some (.int .i64 (i : Nat)))]) (fun i => []) (fun i => i ≤ h.coolers.length ∧ coolersOk h i = true) (fun i => h.coolers.length - i) (0) [] rfl ⟨by omega, rfl⟩ (.c rfl (.base 0 rfl rfl)) ?_
    rintro i ⟨hi, hall⟩ ih3
    dsimp only [lcA, lnA] at ih3 ⊢
    refine XK.seq (XK.region rfl ?_)
    refine XO.q (Q.lss rfl rfl) ?_
    refine XO.done (XK.seq ?_)
    refine XK.if rfl (fun c6 => ?_) (fun c6 => ?_)
    ·skip
     refine XK.skip (XK.seq (XK.block (XK.seq (XK.region rfl ?_))))
     refine XO.ix rfl rfl (by omega) (by omega) fun i120 => ?_
     refine XO.q (Q.ldEA [_, _, _, _, _] rfl (by first | assumption | omega) rfl rfl) ?_
     refine XO.alloc fun b10 => ?_
     refine XO.st rfl rfl rfl ?_
     refine XO.done (XK.seq (XK.region rfl ?_))
     refine XO.q (Q.fieldAddr rfl) ?_
     refine XO.q (Q.ld rfl rfl) ?_
     refine XO.q (Q.fieldAddr rfl) ?_
     refine XO.q (Q.ld rfl rfl) ?_
     refine XO.call Tryz.call163 rfl rfl rfl (indexRoom _ vr hr h.rooms) fun v126 s126 R126 => ?_
     obtain ⟨rfl, rfl⟩ := R126
     dsimp only [lcA, lnA]
     refine XO.q (Q.not rfl) ?_
     refine XO.q (Q.move rfl) ?_
     refine XO.q (Quiet.guardF rfl rfl fun g129 p129 => Q.fieldAddr rfl) ?_
     refine XO.q (Quiet.guardF rfl rfl fun g130 p130 => Q.ld (lzv g130 rfl) rfl) ?_
     refine XO.q (Quiet.guardF rfl rfl fun g131 p131 => Q.fieldAddr rfl) ?_
     refine XO.q (Quiet.guardF rfl rfl fun g132 p132 => Q.ld (lzv g132 rfl) rfl) ?_
     refine XO.gcallF rfl rfl Tryz.call164 rfl (fun g133 => .c (lzv g133 rfl) (.c (lzv g133 rfl) .n)) rfl (fun g133 p133 => indexBranch _ vb hb h.branches) ?_
     refine XO.q (Quiet.guardF rfl rfl fun g134 p134 => Q.not (lzv g134 rfl)) ?_
     refine XO.q (Q.or rfl (fun hp => lzv hp rfl)) ?_
     refine XO.q (Q.move rfl) ?_
     refine XO.q (Quiet.guardF rfl rfl fun g137 p137 => Q.fieldAddr rfl) ?_
     refine XO.q (Quiet.guardF rfl rfl fun g138 p138 => Q.ld (lzv g138 rfl) rfl) ?_
     refine XO.gcallF rfl rfl Tryz.call61 rfl (fun g139 => .c (lzv g139 rfl) (.c rfl .n)) rfl (fun g139 p139 => in_spec _ _) ?_
     refine XO.q (Quiet.guardF rfl rfl fun g140 p140 => Q.not (lzv g140 rfl)) ?_
     refine XO.q (Q.or rfl (fun hp => lzv hp rfl)) ?_
     refine XO.q (Q.move rfl) ?_
     refine XO.q (Quiet.guardF rfl rfl fun g143 p143 => Q.fieldAddr rfl) ?_
     refine XO.q (Quiet.guardF rfl rfl fun g144 p144 => Q.ld (lzv g144 rfl) rfl) ?_
     refine XO.gcallF rfl rfl Tryz.call61 rfl (fun g145 => .c (lzv g145 rfl) (.c rfl .n)) rfl (fun g145 p145 => in_spec _ _) ?_
     refine XO.q (Quiet.guardF rfl rfl fun g146 p146 => Q.not (lzv g146 rfl)) ?_
     refine XO.q (Q.or rfl (fun hp => lzv hp rfl)) ?_
     refine XO.q (Q.move rfl) ?_
     refine XO.q (Quiet.guardF rfl rfl fun g149 p149 => Q.fieldAddr rfl) ?_
     refine XO.q (Quiet.guardF rfl rfl fun g150 p150 => Q.ld (lzv g150 rfl) rfl) ?_
     refine XO.gcallF rfl rfl Tryz.call61 rfl (fun g151 => .c (lzv g151 rfl) (.c rfl .n)) rfl (fun g151 p151 => in_spec _ _) ?_
     refine XO.q (Quiet.guardF rfl rfl fun g152 p152 => Q.not (lzv g152 rfl)) ?_
     refine XO.q (Q.or rfl (fun hp => lzv hp rfl)) ?_
     refine XO.done ?_
     refine XK.if rfl (fun c7 => ?_) (fun c7 => ?_)
     ·skip
      refine XK.seq (XK.region rfl (XO.q (Q.assign rfl) (XO.done ?_)))
      refine XK.rt [] Tryz.func106 Tryz.results106 (.t rfl .n) ?_
      have hb : coolersOk h h.coolers.length = false := allTo_false (s := i) (by omega) (by rw [Bool.eq_false_iff]; intro h; exact (okCooler_iff.1 h) c7)
      exact ⟨by simp [allowedP, hb], rfl⟩
     ·skip
      refine XK.skip ?_
      refine XK.inBlock ?_
      refine XK.region rfl ?_
      refine XO.q (Q.add rfl rfl ⟨by omega, by omega⟩) ?_
      refine XO.q (Q.move rfl) (XO.done ?_)
      exact ih3 (i + 1) _ _ ⟨by omega, by rw [coolersOk, allTo_succ]; rw [coolersOk] at hall; rw [hall, Bool.true_and]; exact okCooler_iff.2 c7⟩ (by first | omega | (dsimp only; omega)) (.c rfl (.base 78 rfl rfl)) inferInstance
    ·skip
     have e4 : coolersOk h h.coolers.length = true := by rw [show h.coolers.length = i by omega]; exact hall
     refine XK.exit rfl ?_
     refine XK.seq (XK.region rfl (XO.q (Q.assign rfl) (XO.done ?_)))
     refine XK.rt [] Tryz.func106 Tryz.results106 (.t rfl .n) ?_
     exact ⟨by rw [allowedP, e1, e2, e3, e4]; rfl, rfl⟩
end Go.X.Ht

set_option linter.unusedSimpArgs false
set_option linter.unusedVariables false
set_option maxRecDepth 20000
namespace Go.X.Ht
open Go.Proofs
theorem hcheck_many {h : Hall} (c : (((((h.rooms.length : Int) < 1 ∨ 8 < (h.rooms.length : Int)) ∨ 16 < (h.walls.length : Int)) ∨ 16 < (h.branches.length : Int)) ∨ 16 < (h.coolers.length : Int))) : hcheck h = 2 := by rw [hcheck, if_pos c]
theorem Check_spec (h : Hall) (vr vw vb vc : Value) (hr hw hb hc : PHeap) [ir : Arr vr encRoom 2 hr h.rooms] [iw : Arr vw encWall 3 hw h.walls] [ib : Arr vb encBranch 3 hb h.branches] [ic : Arr vc encCooler 5 hc h.coolers] : Spec Tryz.prog 49 #[.agg #[vr, vw, vb, vc]] [] [hr, hw, hb, hc] (fun v hs => v = .int .i64 (hcheck h) ∧ hs = []) := by
 have lr := ir.le
 have lw := iw.le
 have lb := ib.le
 have lc := ic.le
 refine Spec.intro (fn := Tryz.f49) (N := 92) Tryz.func49 rfl Tryz.ntmps49 rfl fun B => ?_
 refine XK.seq (XK.region rfl ?_)
 refine XO.box rfl fun b1 => ?_
 refine XO.q (Q.assign rfl) (XO.done (XK.seq (XK.seq (XK.region rfl ?_))))
 refine XO.q (Q.fieldAddr rfl) ?_
 refine XO.q (Q.ld rfl rfl) ?_
 refine XO.len rfl fun l12 => ?_
 refine XO.q (Q.lss rfl rfl) ?_
 refine XO.q (Q.move rfl) ?_
 refine XO.q (Quiet.guardF rfl rfl fun g15 p15 => Q.fieldAddr rfl) ?_
 refine XO.q (Quiet.guardF rfl rfl fun g16 p16 => Q.ld (lzv g16 rfl) rfl) ?_
 refine XO.q (Quiet.guardF rfl rfl fun g17 p17 => Q.len (lzv g17 rfl)) ?_
 refine XO.q (Quiet.guardF rfl rfl fun g18 p18 => Q.gtr (lzv g18 rfl) rfl) ?_
 refine XO.q (Q.or rfl (fun hp => lzv hp rfl)) ?_
 refine XO.q (Q.move rfl) ?_
 refine XO.q (Quiet.guardF rfl rfl fun g21 p21 => Q.fieldAddr rfl) ?_
 refine XO.q (Quiet.guardF rfl rfl fun g22 p22 => Q.ld (lzv g22 rfl) rfl) ?_
 refine XO.q (Quiet.guardF rfl rfl fun g23 p23 => Q.len (lzv g23 rfl)) ?_
 refine XO.q (Quiet.guardF rfl rfl fun g24 p24 => Q.gtr (lzv g24 rfl) rfl) ?_
 refine XO.q (Q.or rfl (fun hp => lzv hp rfl)) ?_
 refine XO.q (Q.move rfl) ?_
 refine XO.q (Quiet.guardF rfl rfl fun g27 p27 => Q.fieldAddr rfl) ?_
 refine XO.q (Quiet.guardF rfl rfl fun g28 p28 => Q.ld (lzv g28 rfl) rfl) ?_
 refine XO.q (Quiet.guardF rfl rfl fun g29 p29 => Q.len (lzv g29 rfl)) ?_
 refine XO.q (Quiet.guardF rfl rfl fun g30 p30 => Q.gtr (lzv g30 rfl) rfl) ?_
 refine XO.q (Q.or rfl (fun hp => lzv hp rfl)) ?_
 refine XO.q (Q.move rfl) ?_
 refine XO.q (Quiet.guardF rfl rfl fun g33 p33 => Q.fieldAddr rfl) ?_
 refine XO.q (Quiet.guardF rfl rfl fun g34 p34 => Q.ld (lzv g34 rfl) rfl) ?_
 refine XO.q (Quiet.guardF rfl rfl fun g35 p35 => Q.len (lzv g35 rfl)) ?_
 refine XO.q (Quiet.guardF rfl rfl fun g36 p36 => Q.gtr (lzv g36 rfl) rfl) ?_
 refine XO.q (Q.or rfl (fun hp => lzv hp rfl)) ?_
 refine XO.done ?_
 refine XK.if rfl (fun c0 => ?_) (fun c0 => ?_)
 ·skip
  refine XK.seq (XK.region rfl (XO.q (Q.assign rfl) (XO.done ?_)))
  refine XK.rt [] Tryz.func49 Tryz.results49 (.t rfl .n) ?_
  exact ⟨by rw [hcheck_many c0], rfl⟩
 ·skip
  refine XK.skip (XK.seq (XK.seq (XK.region rfl ?_)))
  refine XO.q (Q.ldA [_, _, _, _] rfl rfl rfl) ?_
  refine XO.call Tryz.call106 rfl rfl rfl (allowed_spec h vr vw vb vc hr hw hb hc) fun v39 s39 R39 => ?_
  obtain ⟨rfl, rfl⟩ := R39
  dsimp only [lcA, lnA]
  refine XO.q (Q.not rfl) ?_
  refine XO.done ?_
  refine XK.if rfl (fun c1 => ?_) (fun c1 => ?_)
  ·skip
   refine XK.seq (XK.region rfl (XO.q (Q.assign rfl) (XO.done ?_)))
   refine XK.rt [] Tryz.func49 Tryz.results49 (.t rfl .n) ?_
   exact ⟨by rw [hcheck, if_neg c0, if_pos (by simpa using c1)], rfl⟩
  ·skip
   have ha : allowedP h = true := Classical.byContradiction c1
   refine XK.skip (XK.seq (XK.seq (XK.region rfl ?_)))
   refine XO.q (Q.fieldAddr rfl) ?_
   refine XO.q (Q.ld rfl rfl) ?_
   refine XO.len rfl fun l43 => ?_
   refine XO.q (Q.move rfl) (XO.done (XK.block ?_))
   refine XK.while (X := Nat) [2, 3, 4, 5, 7, 9, 44, 45, 46, 47, 48, 49, 50, 51, 52, 53, 54, 55, 56, 57, 58, 59, 60, 61, 62, 63, 64, 65, 66, 67, 68, 69, 70, 71, 72, 73, 74, 75, 76, 77, 78, 79, 80, 81, 82, 83, 84, 85, 86, 87, 88, 89, 90, 91] (fun i => [(44, some (.int .i64 (i : Nat)))]) (fun i => []) (fun i => i ≤ h.rooms.length ∧ allTo (fun i => decide (slope h i ≤ (h.rooms.getD i default).store)) i = true) (fun i => h.rooms.length - i) (0) [] rfl ⟨by omega, rfl⟩ (.c rfl (.base 0 rfl rfl)) ?_
   rintro i ⟨hi, hall⟩ ih0
   dsimp only [lcA, lnA] at ih0 ⊢
   refine XK.seq (XK.region rfl ?_)
   refine XO.q (Q.lss rfl rfl) ?_
   refine XO.done (XK.seq ?_)
   refine XK.if rfl (fun c2 => ?_) (fun c2 => ?_)
   ·skip
    refine XK.skip (XK.seq (XK.block (XK.seq (XK.region rfl (XO.q (Q.move rfl) ?_)))))
    refine XO.ix rfl rfl (by omega) (by omega) fun i47 => ?_
    refine XO.q (Q.ldEA [_, _] rfl (by first | assumption | omega) rfl rfl) ?_
    refine XO.alloc fun b4 => ?_
    refine XO.q (Q.assign rfl) ?_
    refine XO.st rfl rfl rfl ?_
    refine XO.done (XK.seq (XK.region rfl (XO.q (Q.assign rfl) (XO.done (XK.seq ?_)))))
    refine XK.seq (XK.region rfl ?_)
    refine XO.q (Q.fieldAddr rfl) ?_
    refine XO.q (Q.ld rfl rfl) ?_
    refine XO.len rfl fun l51 => ?_
    refine XO.q (Q.move rfl) (XO.done (XK.block ?_))
    refine XK.while (X := Nat) [5, 7, 52, 53, 54, 55, 56, 57, 58, 59, 60, 61, 62, 63, 64, 65, 66, 67, 68, 69, 70] (fun k => [(52, some (.int .i64 (k : Nat))), (5, some (.int .i64 (sumTo (wslope h i) k)))]) (fun k => []) (fun k => k ≤ h.walls.length) (fun k => h.walls.length - k) (0) [] rfl (by omega) (.c rfl (.c rfl (.base 0 rfl rfl))) ?_
    rintro k hk ih1
    dsimp only [lcA, lnA] at ih1 ⊢
    refine XK.seq (XK.region rfl ?_)
    refine XO.q (Q.lss rfl rfl) ?_
    refine XO.done (XK.seq ?_)
    refine XK.if rfl (fun c3 => ?_) (fun c3 => ?_)
    ·skip
     have hws := wsum_rng ha (by omega) i (k := k) (by omega)
     have hwf := (allowed_facts ha).2.1 k (by omega)
     refine XK.skip (XK.seq (XK.block (XK.seq (XK.region rfl ?_))))
     refine XO.ix rfl rfl (by omega) (by omega) fun i54 => ?_
     refine XO.q (Q.ldEA [_, _, _] rfl (by first | assumption | omega) rfl rfl) ?_
     refine XO.alloc fun b7 => ?_
     refine XO.st rfl rfl rfl ?_
     refine XO.done (XK.seq (XK.region rfl ?_))
     refine XO.q (Q.fieldAddr rfl) ?_
     refine XO.q (Q.ld rfl rfl) ?_
     refine XO.q (Q.move rfl) ?_
     refine XO.q (Q.eql rfl rfl) ?_
     refine XO.q (Q.move rfl) ?_
     refine XO.q (Quiet.guardF rfl rfl fun g61 p61 => Q.fieldAddr rfl) ?_
     refine XO.q (Quiet.guardF rfl rfl fun g62 p62 => Q.ld (lzv g62 rfl) rfl) ?_
     refine XO.q (Quiet.guardF rfl rfl fun g63 p63 => Q.move rfl) ?_
     refine XO.q (Quiet.guardF rfl rfl fun g64 p64 => Q.eql (lzv g64 rfl) (lzv g64 rfl)) ?_
     refine XO.q (Q.or rfl (fun hp => lzv hp rfl)) ?_
     refine XO.done ?_
     refine XK.if rfl (fun c4 => ?_) (fun c4 => ?_)
     ·skip
      refine XK.region rfl (XO.q (Q.move rfl) ?_)
      refine XO.q (Q.fieldAddr rfl) ?_
      refine XO.q (Q.ld rfl rfl) ?_
      refine XO.q (Q.add rfl rfl ⟨by omega, by omega⟩) ?_
      refine XO.q (Q.assign rfl) (XO.done ?_)
      refine XK.inBlock ?_
      refine XK.region rfl ?_
      refine XO.q (Q.add rfl rfl ⟨by omega, by omega⟩) ?_
      refine XO.q (Q.move rfl) (XO.done ?_)
      rw [show sumTo (wslope h i) k + (h.walls.getD k default).pass = sumTo (wslope h i) (k + 1) by rw [sumTo, wslope, if_pos c4]]
      exact ih1 (k + 1) _ _ (by omega) (by first | omega | (dsimp only; omega)) (.c rfl (.c rfl (.base 44 rfl rfl))) inferInstance
     ·skip
      refine XK.skip ?_
      refine XK.inBlock ?_
      refine XK.region rfl ?_
      refine XO.q (Q.add rfl rfl ⟨by omega, by omega⟩) ?_
      refine XO.q (Q.move rfl) (XO.done ?_)
      rw [show sumTo (wslope h i) k = sumTo (wslope h i) (k + 1) by rw [sumTo, wslope, if_neg c4, Int.add_zero]]
      exact ih1 (k + 1) _ _ (by omega) (by first | omega | (dsimp only; omega)) (.c rfl (.c rfl (.base 39 rfl rfl))) inferInstance
    ·skip
     have hkw : k = h.walls.length := by omega
     rw [hkw]
     have hws := wsum_rng ha (by omega) i (k := h.walls.length) (Nat.le_refl _)
     rw [show sumTo (wslope h i) h.walls.length = sumTo (wslope h i) h.walls.length + sumTo (cslope h i) 0 by rw [sumTo, Int.add_zero]]
     clear ih1 hk hkw c3
     refine XK.exit rfl ?_
     refine XK.seq (XK.seq (XK.region rfl ?_))
     refine XO.q (Q.fieldAddr rfl) ?_
     refine XO.q (Q.ld rfl rfl) ?_
     refine XO.len rfl fun l73 => ?_
     refine XO.q (Q.move rfl) (XO.done (XK.block ?_))
     refine XK.while (X := Nat) [5, 9, 74, 75, 76, 77, 78, 79, 80, 81, 82, 83, 84, 85, 86] (fun k => [(74, some (.int .i64 (k : Nat))), (5, some (.int .i64 (sumTo (wslope h i) h.walls.length + sumTo (cslope h i) k)))]) (fun k => []) (fun k => k ≤ h.coolers.length) (fun k => h.coolers.length - k) (0) [] rfl (by omega) (.c rfl (.c rfl (.base 0 rfl rfl))) ?_
     rintro k hk ih2
     dsimp only [lcA, lnA] at ih2 ⊢
     refine XK.seq (XK.region rfl ?_)
     refine XO.q (Q.lss rfl rfl) ?_
     refine XO.done (XK.seq ?_)
     refine XK.if rfl (fun c5 => ?_) (fun c5 => ?_)
     ·skip
      have hcs := csum_rng ha (by omega) i (k := k) (by omega)
      have hcf := (allowed_facts ha).2.2 k (by omega)
      refine XK.skip (XK.seq (XK.block (XK.seq (XK.region rfl ?_))))
      refine XO.ix rfl rfl (by omega) (by omega) fun i76 => ?_
      refine XO.q (Q.ldEA [_, _, _, _, _] rfl (by first | assumption | omega) rfl rfl) ?_
      refine XO.alloc fun b9 => ?_
      refine XO.st rfl rfl rfl ?_
      refine XO.done (XK.seq (XK.region rfl ?_))
      refine XO.q (Q.fieldAddr rfl) ?_
      refine XO.q (Q.ld rfl rfl) ?_
      refine XO.q (Q.move rfl) ?_
      refine XO.q (Q.eql rfl rfl) ?_
      refine XO.done ?_
      refine XK.if rfl (fun c6 => ?_) (fun c6 => ?_)
      ·skip
       refine XK.region rfl (XO.q (Q.move rfl) ?_)
       refine XO.q (Q.fieldAddr rfl) ?_
       refine XO.q (Q.ld rfl rfl) ?_
       refine XO.q (Q.add rfl rfl ⟨by omega, by omega⟩) ?_
       refine XO.q (Q.assign rfl) (XO.done ?_)
       refine XK.inBlock ?_
       refine XK.region rfl ?_
       refine XO.q (Q.add rfl rfl ⟨by omega, by omega⟩) ?_
       refine XO.q (Q.move rfl) (XO.done ?_)
       rw [show sumTo (wslope h i) h.walls.length + sumTo (cslope h i) k + (h.coolers.getD k default).gain = sumTo (wslope h i) h.walls.length + sumTo (cslope h i) (k + 1) by rw [sumTo, cslope, if_pos c6, Int.add_assoc]]
       exact ih2 (k + 1) _ _ (by omega) (by first | omega | (dsimp only; omega)) (.c rfl (.c rfl (.base 32 rfl rfl))) inferInstance
      ·skip
       refine XK.skip ?_
       refine XK.inBlock ?_
       refine XK.region rfl ?_
       refine XO.q (Q.add rfl rfl ⟨by omega, by omega⟩) ?_
       refine XO.q (Q.move rfl) (XO.done ?_)
       rw [show sumTo (cslope h i) k = sumTo (cslope h i) (k + 1) by rw [sumTo, cslope, if_neg c6, Int.add_zero]]
       exact ih2 (k + 1) _ _ (by omega) (by first | omega | (dsimp only; omega)) (.c rfl (.c rfl (.base 27 rfl rfl))) inferInstance
     ·skip
      have hkc : k = h.coolers.length := by omega
      rw [hkc]
      refine XK.exit rfl ?_
      refine XK.seq (XK.region rfl (XO.q (Q.move rfl) ?_))
      refine XO.q (Q.fieldAddr rfl) ?_
      refine XO.q (Q.ld rfl rfl) ?_
      refine XO.q (Q.gtr rfl rfl) ?_
      refine XO.done ?_
      refine XK.if rfl (fun c7 => ?_) (fun c7 => ?_)
      ·skip
       refine XK.seq (XK.region rfl (XO.q (Q.assign rfl) (XO.done ?_)))
       refine XK.rt [] Tryz.func49 Tryz.results49 (.t rfl .n) ?_
       exact ⟨by rw [hcheck, if_neg c0, if_neg (by rw [ha]; simp), if_neg]; rw [allTo_false (s := i) (by omega) (by rw [decide_eq_false_iff_not]; change ¬ sumTo (wslope h i) h.walls.length + sumTo (cslope h i) h.coolers.length ≤ _; omega)]; simp, rfl⟩
      ·skip
       refine XK.skip ?_
       refine XK.inBlock ?_
       refine XK.region rfl ?_
       refine XO.q (Q.add rfl rfl ⟨by omega, by omega⟩) ?_
       refine XO.q (Q.move rfl) (XO.done ?_)
       exact ih0 (i + 1) _ _ ⟨by omega, by rw [allTo_succ, hall, Bool.true_and, decide_eq_true_eq]; change sumTo (wslope h i) h.walls.length + sumTo (cslope h i) h.coolers.length ≤ _; omega⟩ (by first | omega | (dsimp only; omega)) (.c rfl (.base 118 rfl rfl)) inferInstance
   ·skip
    refine XK.exit rfl ?_
    refine XK.seq (XK.region rfl (XO.q (Q.assign rfl) (XO.done ?_)))
    refine XK.rt [] Tryz.func49 Tryz.results49 (.t rfl .n) ?_
    have hin : i = h.rooms.length := by omega
    rw [hin] at hall
    exact ⟨by rw [hcheck, if_neg c0, if_neg (by rw [ha]; simp), if_pos hall], rfl⟩
theorem next7 (b : Nat) (vl : Value) (hl : PHeap) (l : List UInt8) [sl : Arr vl encU8 1 hl l] (i n : Nat) (hi : i ≤ 1000000000) (hn : 0 < n) (hn2 : n ≤ 1000000) : Spec Tryz.prog 57 #[ptr b 0, .int .i64 (n : Nat)] [blk b [vl, .int .i64 (i : Nat)] 186] [hl]
  (fun v hs => hs = [blk b [vl, .int .i64 ((i + 1 : Nat) : Int)] 186] ∧ ∃ r : Nat, v = .int .i64 (r : Nat) ∧ r < n) := by
 refine Spec.intro (fn := Tryz.f57) (N := 36) Tryz.func57 rfl Tryz.ntmps57 rfl fun B => ?_
 refine XK.seq (XK.region rfl (XO.q (Q.assign rfl) (XO.done (XK.seq (XK.region rfl ?_)))))
 refine XO.q (Q.move rfl) ?_
 refine XO.q (Q.nilCheck rfl) ?_
 refine XO.q (Q.fieldAddr rfl) ?_
 refine XO.q (Q.ld rfl rfl) ?_
 refine XO.q (Q.add rfl rfl ⟨by omega, by omega⟩) ?_
 rw [show ((i : Int) + 1) = ((i + 1 : Nat) : Int) from rfl]
 refine XO.q (Q.nilCheck rfl) ?_
 refine XO.q (Q.fieldAddr rfl) ?_
 refine XO.st rfl rfl rfl ?_
 refine XO.done (XK.seq (XK.seq ?_))
 refine XK.drawn [0, 1, 2, 3, 4, 5, 6, 7, 8, 9] [b] [] (.q 0 (.q 1 (.q 2 (.q 3 (.q 4 (.q 5 (.q 6 (.q 7 (.q 8 (.q 9 .done)))))))))) Tryz.mixed rfl (by kernel_rfl) ?_
 refine XT.q rfl rfl (Q.move rfl) ?_
 refine XT.q rfl rfl (Q.nilCheck rfl) ?_
 refine XT.q rfl rfl (Q.fieldAddr rfl) ?_
 refine XT.q rfl rfl (Q.ld rfl rfl) ?_
 refine XT.q rfl rfl (Q.move rfl) ?_
 refine XT.q rfl rfl (Q.nilCheck rfl) ?_
 refine XT.q rfl rfl (Q.fieldAddr rfl) ?_
 refine XT.q rfl rfl (Q.ld rfl rfl) ?_
 refine XT.q rfl rfl (Q.len rfl) ?_
 refine XT.q rfl rfl (Q.gtr rfl rfl) ?_
 refine XT.done ?_
 refine XK.if rfl (fun c0 => ?_) (fun c0 => ?_)
 ·skip
  refine XK.seq (XK.region rfl (XO.q (Q.assign rfl) (XO.done ?_)))
  refine XK.rt [blk b [vl, .int .i64 ((i + 1 : Nat) : Int)] 186] Tryz.func57 Tryz.results57 (.t rfl .n) ?_
  exact ⟨rfl, 0, rfl, hn⟩
 ·skip
  refine XK.skip (XK.seq ?_)
  refine XK.drawn [0, 1, 2, 3, 4, 5, 6, 7, 8, 9, 10, 11, 12, 13, 14] [b] [] (.q 0 (.q 1 (.q 2 (.q 3 (.q 4 (.q 5 (.q 6 (.q 7 (.q 8 (.q 9 (.q 10 (.q 11 (.q 12 (.q 13 (.q 14 .done))))))))))))))) Tryz.mixed rfl (by kernel_rfl) ?_
  refine XT.q rfl rfl (Q.move rfl) ?_
  refine XT.q rfl rfl (Q.nilCheck rfl) ?_
  refine XT.q rfl rfl (Q.fieldAddr rfl) ?_
  refine XT.q rfl rfl (Q.ld rfl rfl) ?_
  refine XT.q rfl rfl (Q.move rfl) ?_
  refine XT.q rfl rfl (Q.nilCheck rfl) ?_
  refine XT.q rfl rfl (Q.fieldAddr rfl) ?_
  refine XT.q rfl rfl (Q.ld rfl rfl) ?_
  refine XT.q rfl rfl (Q.sub rfl rfl ⟨by omega, by omega⟩) ?_
  rw [show (((i + 1 : Nat) : Int) - 1) = (i : Int) by omega]
  refine XT.ix rfl rfl rfl rfl (by omega) (by omega) fun i31 => ?_
  refine XT.q rfl rfl (Q.ldE rfl (by first | assumption | omega) rfl) ?_
  refine XT.q rfl rfl (Q.conv rfl) ?_
  have hu := (l.getD i default).toNat_lt
  rw [wrap64_of ⟨by omega, by omega⟩]
  refine XT.q rfl rfl (Q.move rfl) ?_
  refine XT.q rfl rfl (Q.rem rfl rfl (by omega) (by omega)) ?_
  rw [show ((((l.getD i default).toNat : Nat) : Int) % (n : Int)) = (((l.getD i default).toNat % n : Nat) : Int) from rfl]
  refine XT.q rfl rfl (Q.assign rfl) ?_
  refine XT.done ?_
  refine XK.rt [blk b [vl, .int .i64 ((i + 1 : Nat) : Int)] 186] Tryz.func57 Tryz.results57 (.t rfl .n) ?_
  exact ⟨rfl, (l.getD i default).toNat % n, rfl, Nat.mod_lt _ hn⟩
end Go.X.Ht

set_option linter.unusedSimpArgs false
set_option linter.unusedVariables false
set_option maxRecDepth 20000
namespace Go.X.Ht
open Go.Proofs
theorem feed_spec (h : Hall) (vr vw vb vc : Value) (hb : PHeap) [ib : Arr vb encBranch 3 hb h.branches] (ok : HOk h) (pump : Int) (hp : 0 ≤ pump) (hp2 : pump ≤ 100000) (b2 b5 b6 : Nat) (vo : Value) :
  ∀ (m i : Nat), i < h.branches.length → h.branches.length - i ≤ m → ∀ (x : Int), 0 ≤ x → x ≤ 100000 → max (x - (h.branches.getD i default).leak) 0 = (flowsL h pump).getD i 0 → ∀ (ho : PHeap) (o : List Int), OArr vo encI 1 3 ho o → o.length = h.branches.length → (∀ j, Sub h i j → o.getD j 0 = 0) →
  Spec Tryz.prog 200 #[.int .i64 (i : Nat), .int .i64 x, ptr b2 0, ptr b5 0, ptr b6 0] [ho] [blk b2 [vr, vw, vb, vc] 28, blk b5 [vo] 29, blk b6 [(.func (.func 200) #[] #[ptr b2 0, ptr b5 0, ptr b6 0])] 349, hb]
   (fun v hs => ∃ h' o', hs = [h'] ∧ OArr vo encI 1 3 h' o' ∧ o'.length = h.branches.length ∧ (∀ j, j < h.branches.length → Sub h i j → o'.getD j 0 = (flowsL h pump).getD j 0) ∧ ∀ j, ¬ Sub h i j → o'.getD j 0 = o.getD j 0) := by
 intro m
 induction m with
 | zero => intro i hi hm; omega
 | succ m ih =>
  intro i hi hm x hx hx2 hF ho o OO hol hz
  have hbr := ok.branch i hi
  have hb2 := ok.b2
  have hone := open_le ok (i : Int) (n := h.branches.length) (Nat.le_refl _)
  refine Spec.intro (fn := Tryz.f200) (N := 69) Tryz.func200 rfl Tryz.ntmps200 rfl fun B => ?_
  refine XK.seq ?_
  refine XK.drawn [0, 1, 2, 3, 4, 5, 6, 7, 8, 9, 10, 11] [b5, b2] [] (.q 0 (.q 1 (.q 2 (.q 3 (.q 4 (.q 5 (.q 6 (.q 7 (.q 8 (.q 9 (.q 10 (.q 11 (.br 12 false .done .stop))))))))))))) Tryz.mixed rfl (by kernel_rfl) ?_
  refine XT.q rfl rfl (Q.ld rfl rfl) ?_
  refine XT.q rfl rfl (Q.move rfl) ?_
  refine XT.q rfl rfl (Q.move rfl) ?_
  refine XT.q rfl rfl (Q.fieldAddr rfl) ?_
  refine XT.q rfl rfl (Q.ld rfl rfl) ?_
  refine XT.q rfl rfl (Q.move rfl) ?_
  refine XT.ix rfl rfl rfl rfl (by omega) (by omega) fun i18 => ?_
  refine XT.q rfl rfl (Q.fieldQ rfl (by first | assumption | omega)) ?_
  refine XT.q rfl rfl (Q.ldE rfl (by first | assumption | omega) rfl) ?_
  refine XT.q rfl rfl (Q.sub rfl rfl ⟨by omega, by omega⟩) ?_
  refine XT.q rfl rfl (Q.max rfl rfl) ?_
  refine XT.ix rfl rfl rfl rfl (by omega) (by omega) fun i23 => ?_
  refine XT.stE _ rfl rfl rfl rfl rfl (by assumption) rfl rfl (fun h0_12 O0_12 => ⟨inferInstance, ?_⟩) XT.stop
  rw [hF] at O0_12
  have fs := fed_start (pump := pump) hi hol
  refine XT.done ?_
  refine XK.seq (XK.region rfl (XO.q (Q.assign rfl) (XO.done (XK.seq (XK.seq ?_)))))
  refine XK.region rfl ?_
  refine XO.q (Q.fieldAddr rfl) ?_
  refine XO.q (Q.ld rfl rfl) ?_
  refine XO.len rfl fun l26 => ?_
  refine XO.q (Q.move rfl) (XO.done (XK.block ?_))
  refine XK.while (X := Nat) [7, 9, 27, 28, 29, 30, 31, 32, 33, 34, 35, 36, 37, 38, 39] (fun k => [(27, some (.int .i64 (k : Nat))), (7, some (.int .i64 (sumOpen h i k)))]) (fun k => []) (fun k => k ≤ h.branches.length) (fun k => h.branches.length - k) (0) [] rfl (by omega) (.c rfl (.c rfl (.base 0 rfl rfl))) ?_
  rintro k hk ih0
  dsimp only [lcA, lnA] at ih0 ⊢
  refine XK.seq (XK.region rfl ?_)
  refine XO.q (Q.lss rfl rfl) ?_
  refine XO.done (XK.seq ?_)
  refine XK.if rfl (fun c0 => ?_) (fun c0 => ?_)
  ·skip
   have hop := open_le ok (i : Int) (n := k) (by omega)
   have hop0 := open_nonneg ok (i : Int) (n := k) (by omega)
   have hbk := ok.branch k (by omega)
   refine XK.skip (XK.seq (XK.block (XK.seq (XK.region rfl ?_))))
   refine XO.ix rfl rfl (by omega) (by omega) fun i29 => ?_
   refine XO.q (Q.ldEA [_, _, _] rfl (by first | assumption | omega) rfl rfl) ?_
   refine XO.alloc fun b9 => ?_
   refine XO.st rfl rfl rfl ?_
   refine XO.done (XK.seq (XK.region rfl ?_))
   refine XO.q (Q.fieldAddr rfl) ?_
   refine XO.q (Q.ld rfl rfl) ?_
   refine XO.q (Q.move rfl) ?_
   refine XO.q (Q.eql rfl rfl) ?_
   refine XO.done ?_
   refine XK.if rfl (fun c1 => ?_) (fun c1 => ?_)
   ·skip
    refine XK.region rfl (XO.q (Q.move rfl) ?_)
    refine XO.q (Q.fieldAddr rfl) ?_
    refine XO.q (Q.ld rfl rfl) ?_
    refine XO.q (Q.add rfl rfl ⟨by omega, by omega⟩) ?_
    refine XO.q (Q.assign rfl) (XO.done ?_)
    refine XK.inBlock ?_
    refine XK.region rfl ?_
    refine XO.q (Q.add rfl rfl ⟨by omega, by omega⟩) ?_
    refine XO.q (Q.move rfl) (XO.done ?_)
    rw [open_pos c1]
    exact ih0 (k + 1) _ _ (by omega) (by first | omega | (dsimp only; omega)) (.c rfl (.c rfl (.base 32 rfl rfl))) inferInstance
   ·skip
    refine XK.skip ?_
    refine XK.inBlock ?_
    refine XK.region rfl ?_
    refine XO.q (Q.add rfl rfl ⟨by omega, by omega⟩) ?_
    refine XO.q (Q.move rfl) (XO.done ?_)
    rw [open_neg c1]
    exact ih0 (k + 1) _ _ (by omega) (by first | omega | (dsimp only; omega)) (.c rfl (.c rfl (.base 27 rfl rfl))) inferInstance
  ·skip
   have hkn : k = h.branches.length := by omega
   rw [hkn]
   clear ih0 hk hkn c0
   refine XK.exit rfl ?_
   refine XK.seq (XK.region rfl ?_)
   refine XO.q (Q.fieldAddr rfl) ?_
   refine XO.q (Q.ld rfl rfl) ?_
   refine XO.len rfl fun l42 => ?_
   refine XO.q (Q.move rfl) (XO.done (XK.block ?_))
   refine XK.while (X := Nat × PHeap × List Int) [10, 11, 43, 44, 45, 46, 47, 48, 49, 50, 51, 52, 53, 54, 55, 56, 57, 58, 59, 60, 61, 62, 63, 64, 65, 66, 67, 68] (fun ⟨k, hq, z⟩ => [(43, some (.int .i64 (k : Nat)))]) (fun ⟨k, hq, z⟩ => [hq]) (fun ⟨k, hq, z⟩ => k ≤ h.branches.length ∧ Fed h pump i k o z ∧ OArr vo encI 1 3 hq z) (fun ⟨k, hq, z⟩ => h.branches.length - k) (0, h0_12, _) [h0_12] rfl ⟨by omega, fs, O0_12⟩ (.c rfl (.base 0 rfl rfl)) ?_
   rintro ⟨k, hq, z⟩ ⟨hk, fd, OZ⟩ ih1
   dsimp only [lcA, lnA] at ih1 ⊢
   refine XK.seq (XK.region rfl ?_)
   refine XO.q (Q.lss rfl rfl) ?_
   refine XO.done (XK.seq ?_)
   refine XK.if rfl (fun c2 => ?_) (fun c2 => ?_)
   ·skip
    have hbk := ok.branch k (by omega)
    have hfr := flows_rng ok hp i hi
    have hzl := fd.len
    refine XK.skip (XK.seq (XK.block (XK.seq (XK.region rfl (XO.q (Q.move rfl) ?_)))))
    refine XO.ix rfl rfl (by omega) (by omega) fun i46 => ?_
    refine XO.q (Q.ldEA [_, _, _] rfl (by first | assumption | omega) rfl rfl) ?_
    refine XO.alloc fun b11 => ?_
    refine XO.q (Q.assign rfl) ?_
    refine XO.st rfl rfl rfl ?_
    refine XO.done (XK.seq (XK.region rfl ?_))
    refine XO.q (Q.fieldAddr rfl) ?_
    refine XO.q (Q.ld rfl rfl) ?_
    refine XO.q (Q.move rfl) ?_
    refine XO.q (Q.eql rfl rfl) ?_
    refine XO.q (Q.move rfl) ?_
    refine XO.q (Quiet.guardT rfl rfl fun g53 p53 => Q.move rfl) ?_
    refine XO.q (Quiet.guardT rfl rfl fun g54 p54 => Q.gtr (lzv g54 rfl) rfl) ?_
    refine XO.q (Q.and rfl (fun hp => lzv hp rfl)) ?_
    refine XO.done ?_
    refine XK.if rfl (fun c3 => ?_) (fun c3 => ?_)
    ·skip
     obtain ⟨c3u, c3s⟩ := c3
     have hmul : 0 ≤ (flowsL h pump).getD i 0 * (h.branches.getD k default).opn ∧ (flowsL h pump).getD i 0 * (h.branches.getD k default).opn ≤ 100000 * 100 := ⟨Int.mul_nonneg hfr.1 hbk.2.1.1, Int.mul_le_mul (by omega) hbk.2.1.2 hbk.2.1.1 (by omega)⟩
     have hsh := share_le (x := (flowsL h pump).getD i 0) (o := (h.branches.getD k default).opn) (s := sumOpen h i h.branches.length) hfr.1 hbk.2.1.1 (by have := open_one ok (k := k) (by omega); rw [c3u] at this; exact this) c3s
     have hup := up_of ok (i := k) (by omega) (not_zero ok (by omega) c3u)
     refine XK.drawn [0, 1, 2, 3, 4, 6, 7, 9, 8, 10] [b6, b5, b11] [] (.q 0 (.q 1 (.q 2 (.q 3 (.q 4 (.q 6 (.q 7 (.q 9 (.br 5 true (.q 8 (.q 10 (.br 11 true .done .stop))) .stop))))))))) Tryz.mixed rfl (by kernel_rfl) ?_
     refine XT.q rfl rfl (Q.ld rfl rfl) ?_
     refine XT.q rfl rfl (Q.move rfl) ?_
     refine XT.q rfl rfl (Q.ld rfl rfl) ?_
     refine XT.q rfl rfl (Q.move rfl) ?_
     refine XT.ix rfl rfl rfl rfl (by omega) (by omega) fun i60 => ?_
     refine XT.q rfl rfl (Q.fieldAddr rfl) ?_
     refine XT.q rfl rfl (Q.ld rfl rfl) ?_
     refine XT.q rfl rfl (Q.move rfl) ?_
     refine XT.qs rfl rfl (Q.ldE rfl (by first | assumption | omega) rfl) ⟨inferInstance, ?_⟩ XT.stop
     rw [show z.getD i default = (flowsL h pump).getD i 0 from fd.yes i hi (.inl rfl)]
     refine XT.q rfl rfl (Q.mul rfl rfl ⟨by omega, by omega⟩) ?_
     refine XT.q rfl rfl (Q.quo rfl rfl (by omega) (by omega) (by omega)) ?_
     refine XT.call rfl rfl Tryz.call200 rfl rfl rfl (ih k (by omega) (by omega) _ hsh.1 (by omega) (feed_child ok (by omega) c3u c3s).symm hq z OZ fd.len (fed_zero ok fd (by omega) c3u hz)) (fun v67 s67 R67 => ?_) XT.stop
     obtain ⟨h67, y, rfl, O67, y1, y2, y3⟩ := R67
     dsimp only [lcA, lnA]
     refine ⟨inferInstance, ?_⟩
     refine XT.done ?_
     refine XK.inBlock ?_
     refine XK.region rfl ?_
     refine XO.q (Q.add rfl rfl ⟨by omega, by omega⟩) ?_
     refine XO.q (Q.move rfl) (XO.done ?_)
     exact ih1 (k + 1, h67, y) _ _ ⟨by dsimp only; omega, fed_call ok fd (by omega) c3u y1 y2 y3, O67⟩ (by first | omega | (dsimp only; omega)) (.c rfl (.base 57 rfl rfl)) inferInstance
    ·skip
     refine XK.skip ?_
     refine XK.inBlock ?_
     refine XK.region rfl ?_
     refine XO.q (Q.add rfl rfl ⟨by omega, by omega⟩) ?_
     refine XO.q (Q.move rfl) (XO.done ?_)
     exact ih1 (k + 1, hq, z) _ _ ⟨by dsimp only; omega, fed_skip ok fd (by omega) hz c3, OZ⟩ (by first | omega | (dsimp only; omega)) (.c rfl (.base 45 rfl rfl)) inferInstance
   ·skip
    have hkn : k = h.branches.length := by omega
    rw [hkn] at fd
    refine XK.exit rfl ?_
    refine XK.fn [hq] Tryz.func200 Tryz.results200 (.n) ?_
    exact ⟨hq, z, rfl, OZ, fd.len, fun j hj s => fd.yes j hj ((done_sub ok hi).1 s), fun j s => fd.no j fun hd => s ((done_sub ok hi).2 hd)⟩
end Go.X.Ht

set_option linter.unusedSimpArgs false
set_option linter.unusedVariables false
set_option maxRecDepth 20000
namespace Go.X.Ht
open Go.Proofs
theorem flows_eq {h : Hall} {pump : Int} {o : List Int} (hl : o.length = h.branches.length) (hj : ∀ j, j < h.branches.length → o.getD j 0 = (flowsL h pump).getD j 0) : o = flowsL h pump := by
 refine List.ext_getElem (by rw [hl, flows_len]) fun j h1 h2 => ?_
 have := hj j (by omega)
 simpa [h1, h2] using this
theorem flows_zero {h : Hall} (ok : HOk h) {pump : Int} (h0 : 0 < h.branches.length) : max (pump - (h.branches.getD 0 default).leak) 0 = (flowsL h pump).getD 0 0 := by
 rw [flows_at ok h0]; unfold feedOf; rw [if_pos rfl]
theorem flows_spec (h : Hall) (vr vw vb vc : Value) (hb : PHeap) [ir : One vr] [iw : One vw] [ib : Arr vb encBranch 3 hb h.branches] [ic : One vc] (ok : HOk h) (pump : Int) (hp : 0 ≤ pump) (hp2 : pump ≤ 100000) : Spec Tryz.prog 166 #[.agg #[vr, vw, vb, vc], .int .i64 pump] [] [hb]
  (fun v hs => ∃ k, hs = [k] ∧ OArr v encI 1 3 k (flowsL h pump)) := by
 have hb2 := ok.b2
 refine Spec.intro (fn := Tryz.f166) (N := 19) Tryz.func166 rfl Tryz.ntmps166 rfl fun B => ?_
 refine XK.seq (XK.region rfl ?_)
 refine XO.box rfl fun b2 => ?_
 refine XO.q (Q.assign rfl) (XO.done (XK.seq (XK.region rfl ?_)))
 refine XO.q (Q.fieldAddr rfl) ?_
 refine XO.q (Q.ld rfl rfl) ?_
 refine XO.len rfl fun l9 => ?_
 refine XO.make encI (0) rfl rfl rfl (by omega) (by omega) (fun _ => rfl) rfl rfl rfl (by dsimp only [encI]; infer_instance) fun v10 h10 O10 => ?_
 refine XO.alloc fun b5 => ?_
 refine XO.st rfl rfl rfl ?_
 refine XO.done (XK.seq (XK.region rfl ?_))
 refine XO.alloc fun b6 => ?_
 refine XO.done (XK.seq (XK.region rfl ?_))
 refine XO.q (Q.func (fun _ he => rfl) (fun _ he => evs_rel he rfl)) ?_
 refine XO.st rfl rfl rfl ?_
 refine XO.done (XK.seq (XK.seq (XK.region rfl ?_)))
 refine XO.q (Q.ld rfl rfl) ?_
 refine XO.len rfl fun l13 => ?_
 rw [List.length_replicate]
 refine XO.q (Q.gtr rfl rfl) ?_
 refine XO.done ?_
 refine XK.if rfl (fun c0 => ?_) (fun c0 => ?_)
 ·skip
  refine XK.region rfl ?_
  refine XO.q (Q.ld rfl rfl) ?_
  refine XO.q (Q.move rfl) ?_
  refine XO.call Tryz.call200 rfl rfl rfl (feed_spec h vr vw vb vc hb ok pump hp hp2 b2 b5 b6 v10 h.branches.length 0 (by omega) (by omega) pump hp hp2 (flows_zero ok (by omega)) h10 (List.replicate h.branches.length 0) O10 (by simp) (fun j _ => by rw [List.getD_eq_getElem?_getD, List.getElem?_replicate]; split <;> simp)) fun v17 s17 R17 => ?_
  obtain ⟨h17, y, rfl, O17, y1, y2, y3⟩ := R17
  dsimp only [lcA, lnA]
  refine XO.done (XK.seq (XK.region rfl ?_))
  refine XO.q (Q.ld rfl rfl) ?_
  refine XO.q (Q.assign rfl) (XO.done ?_)
  refine XK.rt [h17] Tryz.func166 Tryz.results166 (.t rfl .n) ?_
  rw [flows_eq y1 fun j hj => y2 j hj (sub_root ok j hj)] at O17
  exact ⟨h17, rfl, O17⟩
 ·skip
  refine XK.skip (XK.seq (XK.region rfl ?_))
  refine XO.q (Q.ld rfl rfl) ?_
  refine XO.q (Q.assign rfl) (XO.done ?_)
  refine XK.rt [h10] Tryz.func166 Tryz.results166 (.t rfl .n) ?_
  have h0 : h.branches.length = 0 := by omega
  rw [flows_eq (pump := pump) (h := h) (o := List.replicate h.branches.length 0) (by simp) (fun j hj => by omega)] at O10
  exact ⟨h10, rfl, O10⟩
end Go.X.Ht
