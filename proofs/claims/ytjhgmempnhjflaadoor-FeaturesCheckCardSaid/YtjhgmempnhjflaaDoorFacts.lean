import Derived.Test.YtjhgmempnhjflaaDoorPwM
import Derived.Test.YtjhgmempnhjflaaDoorChecked
namespace Go.Pw
open Go Go.RowKit Go.Proofs
set_option maxRecDepth 100000
set_option linter.unusedSimpArgs false
set_option linter.unusedVariables false
theorem bd76 (parts : List (Nat × Slot)) (N : Slot → Prop) : popBuild Tryd.prog 76 parts N = (match fillP [(0, 1)] [PV.val (.int .i64 0)] parts with | some ps => N (.sv (.agg ps)) | none => False) :=
  popBuild_of (z := (.agg #[(.int .i64 0)])) (by kernel_rfl) (by kernel_rfl) (by kernel_rfl) (by kernel_rfl) parts N
theorem by9 : bytesOf' Tryd.prog 9 = some 16 := by kernel_rfl
theorem sz3 : szOf Tryd.prog 3 = some 1 := by kernel_rfl
theorem sz4 : szOf Tryd.prog 4 = some 1 := by kernel_rfl
theorem sz5 : szOf Tryd.prog 5 = some 1 := by kernel_rfl
theorem sz9 : szOf Tryd.prog 9 = some 1 := by kernel_rfl
theorem ze9 : zeroOf Tryd.prog 9 = some (.string ⟨#[]⟩) := by kernel_rfl
end Go.Pw
