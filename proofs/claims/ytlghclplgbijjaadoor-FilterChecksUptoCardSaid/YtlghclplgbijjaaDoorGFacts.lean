/- Own work: part of the proof of the row YtlghclplgbijjaaDoorRowFilterChecksUpto; no condition of its own. -/
import Derived.Test.YtlghclplgbijjaaDoorNames
namespace Go.Pw
open Go Go.RowKit Go.Proofs
set_option maxRecDepth 100000
set_option linter.unusedSimpArgs false
set_option linter.unusedVariables false
theorem by5 : bytesOf' Tryd.prog 5 = some 1 := by kernel_rfl
theorem by9 : bytesOf' Tryd.prog 9 = some 16 := by kernel_rfl
theorem sz3 : szOf Tryd.prog 3 = some 1 := by kernel_rfl
theorem sz4 : szOf Tryd.prog 4 = some 1 := by kernel_rfl
theorem sz5 : szOf Tryd.prog 5 = some 1 := by kernel_rfl
theorem sz22 : szOf Tryd.prog 22 = some 1 := by kernel_rfl
theorem sz24 : szOf Tryd.prog 24 = some 3 := by kernel_rfl
theorem sz34 : szOf Tryd.prog 34 = some 1 := by kernel_rfl
theorem sz36 : szOf Tryd.prog 36 = some 6 := by kernel_rfl
theorem sz40 : szOf Tryd.prog 40 = some 7 := by kernel_rfl
theorem sz56 : szOf Tryd.prog 56 = some 4 := by kernel_rfl
theorem sz61 : szOf Tryd.prog 61 = some 1 := by kernel_rfl
theorem sz62 : szOf Tryd.prog 62 = some 1 := by kernel_rfl
theorem sz64 : szOf Tryd.prog 64 = some 5 := by kernel_rfl
theorem sz67 : szOf Tryd.prog 67 = some 2 := by kernel_rfl
theorem sz91 : szOf Tryd.prog 91 = some 1 := by kernel_rfl
theorem sz92 : szOf Tryd.prog 92 = some 1 := by kernel_rfl
theorem ze5 : zeroOf Tryd.prog 5 = some (.int .u8 0) := by kernel_rfl
theorem ze9 : zeroOf Tryd.prog 9 = some (.string ⟨#[]⟩) := by kernel_rfl
theorem ze56 : zeroOf Tryd.prog 56 = some (.agg #[(.bool false), (.bool false), (.bool false), (.slice none 0 0)]) := by kernel_rfl
theorem ze64 : zeroOf Tryd.prog 64 = some (.agg #[(.int .i64 0), (.string ⟨#[]⟩), (.bool false), (.slice none 0 0), (.slice none 0 0)]) := by kernel_rfl
theorem ze67 : zeroOf Tryd.prog 67 = some (.agg #[(.int .i64 0), (.int .i64 0)]) := by kernel_rfl
end Go.Pw
