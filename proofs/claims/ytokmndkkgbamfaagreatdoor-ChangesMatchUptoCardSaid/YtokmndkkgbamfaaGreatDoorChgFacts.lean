import Derived.Test.YtokmndkkgbamfaaGreatDoorNames
namespace Go.Pw
open Go Go.RowKit Go.Proofs
set_option maxRecDepth 100000
set_option linter.unusedSimpArgs false
set_option linter.unusedVariables false
theorem bd90 (parts : List (Nat × Slot)) (N : Slot → Prop) : popBuild Tryz.prog 90 parts N = (match fillP [(0, 1), (1, 1)] [PV.val (.int .i64 0), PV.val (.string ⟨#[]⟩)] parts with | some ps => N (.sv (.agg ps)) | none => False) :=
  popBuild_of (z := (.agg #[(.int .i64 0), (.string ⟨#[]⟩)])) (by kernel_rfl) (by kernel_rfl) (by kernel_rfl) (by kernel_rfl) parts N
theorem bd162 (parts : List (Nat × Slot)) (N : Slot → Prop) : popBuild Tryz.prog 162 parts N = (match fillP [(0, 1), (1, 1), (2, 1), (3, 1)] [PV.val (.int .i64 0), PV.val (.int .i64 0), PV.val (.int .i64 0), PV.val (.int .i64 0)] parts with | some ps => N (.sv (.agg ps)) | none => False) :=
  popBuild_of (z := (.agg #[(.int .i64 0), (.int .i64 0), (.int .i64 0), (.int .i64 0)])) (by kernel_rfl) (by kernel_rfl) (by kernel_rfl) (by kernel_rfl) parts N
theorem bd163 (parts : List (Nat × Slot)) (N : Slot → Prop) : popBuild Tryz.prog 163 parts N = (match fillP [(0, 4), (4, 4), (8, 4), (12, 4)] [PV.val (.int .i64 0), PV.val (.int .i64 0), PV.val (.int .i64 0), PV.val (.int .i64 0), PV.val (.int .i64 0), PV.val (.int .i64 0), PV.val (.int .i64 0), PV.val (.int .i64 0), PV.val (.int .i64 0), PV.val (.int .i64 0), PV.val (.int .i64 0), PV.val (.int .i64 0), PV.val (.int .i64 0), PV.val (.int .i64 0), PV.val (.int .i64 0), PV.val (.int .i64 0)] parts with | some ps => N (.sv (.agg ps)) | none => False) :=
  popBuild_of (z := (.agg #[(.int .i64 0), (.int .i64 0), (.int .i64 0), (.int .i64 0), (.int .i64 0), (.int .i64 0), (.int .i64 0), (.int .i64 0), (.int .i64 0), (.int .i64 0), (.int .i64 0), (.int .i64 0), (.int .i64 0), (.int .i64 0), (.int .i64 0), (.int .i64 0)])) (by kernel_rfl) (by kernel_rfl) (by kernel_rfl) (by kernel_rfl) parts N
theorem by44 : bytesOf' Tryz.prog 44 = some 24 := by kernel_rfl
theorem by90 : bytesOf' Tryz.prog 90 = some 24 := by kernel_rfl
theorem sz3 : szOf Tryz.prog 3 = some 1 := by kernel_rfl
theorem sz44 : szOf Tryz.prog 44 = some 1 := by kernel_rfl
theorem sz86 : szOf Tryz.prog 86 = some 4 := by kernel_rfl
theorem sz90 : szOf Tryz.prog 90 = some 2 := by kernel_rfl
theorem sz162 : szOf Tryz.prog 162 = some 4 := by kernel_rfl
theorem sz163 : szOf Tryz.prog 163 = some 16 := by kernel_rfl
theorem ze44 : zeroOf Tryz.prog 44 = some (.slice none 0 0) := by kernel_rfl
theorem ze86 : zeroOf Tryz.prog 86 = some (.agg #[(.string ⟨#[]⟩), (.int .i64 0), (.int .i64 0), (.string ⟨#[]⟩)]) := by kernel_rfl
theorem ze90 : zeroOf Tryz.prog 90 = some (.agg #[(.int .i64 0), (.string ⟨#[]⟩)]) := by kernel_rfl
theorem ze99 : zeroOf Tryz.prog 99 = some (.agg #[(.int .i64 0), (.int .i64 0), (.slice none 0 0), (.slice none 0 0)]) := by kernel_rfl
theorem ze163 : zeroOf Tryz.prog 163 = some (.agg #[(.int .i64 0), (.int .i64 0), (.int .i64 0), (.int .i64 0), (.int .i64 0), (.int .i64 0), (.int .i64 0), (.int .i64 0), (.int .i64 0), (.int .i64 0), (.int .i64 0), (.int .i64 0), (.int .i64 0), (.int .i64 0), (.int .i64 0), (.int .i64 0)]) := by kernel_rfl
end Go.Pw
