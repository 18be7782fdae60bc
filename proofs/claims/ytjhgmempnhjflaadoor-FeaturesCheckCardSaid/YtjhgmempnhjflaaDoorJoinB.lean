import Derived.Test.YtjhgmempnhjflaaDoorCheck
import Derived.Test.YtjhgmempnhjflaaDoorPwV
namespace Go.Pw
open Go Go.RowKit Go.Proofs
set_option maxRecDepth 100000
set_option linter.unusedSimpArgs false
set_option linter.unusedVariables false
theorem join_bulk (c : UInt8) : ∀ xs : List (List UInt8), (Lib.join xs [c]).length ≤ pvWss (pstrs xs) ∧ xs.length ≤ pvWss (pstrs xs)
  | [] => by simp [Lib.join, pvWss, pstrs]
  | [x] => by simp [Lib.join_one, pvWss, pstrs, pvWs, pvW, str_size]
  | x :: y :: r => by
    obtain ⟨ih1, ih2⟩ := join_bulk c (y :: r)
    have e : Lib.join (x :: y :: r) [c] = x ++ ([c] ++ Lib.join (y :: r) [c]) := by
      rw [Lib.join_cons, Lib.join_cons]
      simp [Lib.joinTail]
    rw [e]
    simp only [List.length_append, List.length_cons, List.length_nil, pvWss, pstrs, List.map_cons, pvWs, pvW, str_size] at ih1 ih2 ⊢
    omega
end Go.Pw
