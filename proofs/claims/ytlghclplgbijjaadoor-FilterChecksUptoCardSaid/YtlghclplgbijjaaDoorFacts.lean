/- Own work: part of the proof of the row YtlghclplgbijjaaDoorRowFilterChecksUpto; no condition of its own. -/
import Derived.Test.YtlghclplgbijjaaDoorPwM
import Derived.Test.YtlghclplgbijjaaDoorChecked
namespace Go.Pw
open Go Go.RowKit Go.Proofs
set_option maxRecDepth 100000
set_option linter.unusedSimpArgs false
set_option linter.unusedVariables false
theorem sz9 : szOf Tryd.prog 9 = some 1 := by kernel_rfl
end Go.Pw
