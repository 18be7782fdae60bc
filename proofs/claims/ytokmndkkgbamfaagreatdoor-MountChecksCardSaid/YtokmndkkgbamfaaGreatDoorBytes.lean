import Derived.Test.YtokmndkkgbamfaaGreatDoorLib
namespace Go.Pw
open Go Go.RowKit Go.Proofs
set_option maxRecDepth 100000
set_option linter.unusedSimpArgs false
set_option linter.unusedVariables false
theorem all_u8 {Q : UInt8 → Prop} (h : ∀ n : Fin 256, Q (UInt8.ofNat n.val)) (c : UInt8) : Q c := by
  have := h ⟨c.toNat, c.toNat_lt⟩
  simpa using this
def letterB (c : UInt8) : Bool := decide (65 ≤ c.toNat ∧ c.toNat ≤ 90) || decide (97 ≤ c.toNat ∧ c.toNat ≤ 122)
def digitB (c : UInt8) : Bool := decide (48 ≤ c.toNat ∧ c.toNat ≤ 57)
theorem letter_low (c : UInt8) : (decide (((lowC c).toNat : Int) ≥ 97) && decide (((lowC c).toNat : Int) ≤ 122)) = letterB c :=
  all_u8 (Q := fun c => (decide (((lowC c).toNat : Int) ≥ 97) && decide (((lowC c).toNat : Int) ≤ 122)) = letterB c) (by decide +kernel) c
theorem digit_low (c : UInt8) : (decide ((c.toNat : Int) ≥ 48) && decide ((c.toNat : Int) ≤ 57)) = digitB c :=
  all_u8 (Q := fun c => (decide ((c.toNat : Int) ≥ 48) && decide ((c.toNat : Int) ≤ 57)) = digitB c) (by decide +kernel) c
end Go.Pw
