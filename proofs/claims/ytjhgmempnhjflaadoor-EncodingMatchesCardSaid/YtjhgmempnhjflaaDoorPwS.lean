/-
  PW, part S: plain laws on texts: cut at a byte.
-/
import Derived.Test.YtjhgmempnhjflaaDoorPwR
import Derived.Lib.SplitLaws
namespace Go.Pw
open Go Go.RowKit

/-- A text cut at each instance of a byte. -/
def spl (c : UInt8) : List UInt8 → List (List UInt8)
  | [] => [[]]
  | b :: l => if b = c then [] :: spl c l else ((b :: (spl c l).headD []) :: (spl c l).tail)

theorem spl_ne (c : UInt8) (l : List UInt8) : spl c l ≠ [] := by
  cases l with
  | nil => simp [spl]
  | cons b l => simp only [spl]; split <;> simp

theorem spl_none {c : UInt8} {l : List UInt8} (h : c ∉ l) : spl c l = [l] := by
  induction l with
  | nil => rfl
  | cons b l ih =>
    have hb : b ≠ c := fun e => h (by simp [e])
    have hl : c ∉ l := fun e => h (by simp [e])
    simp [spl, hb, ih hl]

theorem index1_cons (b c : UInt8) (l : List UInt8) : Lib.index (b :: l) [c] = if b = c then 0 else if Lib.index l [c] = -1 then -1 else Lib.index l [c] + 1 := by
  rw [Lib.index]
  by_cases h : b = c
  · simp [h]
  · have : ¬ c = b := fun e => h e.symm
    have hp : ([c] : List UInt8).isPrefixOf (b :: l) = false := by simp [List.isPrefixOf, this]
    simp only [hp, h, if_false, Bool.false_eq_true, beq_iff_eq]

theorem splitK_spl (c : UInt8) : ∀ (l : List UInt8) (k : Nat), l.count c ≤ k → Lib.splitK [c] 0 k l = spl c l
  | [], k, _ => by cases k <;> rfl
  | b :: l, 0, h => by
    have : c ∉ b :: l := fun e => by have := List.count_pos_iff.2 e; omega
    rw [spl_none this]
    rfl
  | b :: l, k + 1, h => by
    unfold Lib.splitK
    rw [index1_cons]
    by_cases hb : b = c
    · subst hb
      have := splitK_spl b l k (by simp at h; omega)
      simp [this, spl]
    · have hc : (b :: l).count c = l.count c := by rw [List.count_cons_of_ne hb]
      have ih := splitK_spl c l (k + 1) (by omega)
      unfold Lib.splitK at ih
      simp only [if_neg hb, spl]
      by_cases hi : Lib.index l [c] = -1
      · simp only [hi, if_true] at ih ⊢
        rw [← ih]
        rfl
      · have hge := Lib.index_ge l [c]
        have e1 : ¬ ((Lib.index l [c] == -1) = true) := by simpa using hi
        have e2 : ¬ ((Lib.index l [c] + 1 == -1) = true) := by simp; omega
        rw [if_neg e1] at ih
        simp only [if_neg hi, if_neg e2]
        have e3 : (Lib.index l [c] + 1).toNat = (Lib.index l [c]).toNat + 1 := by omega
        rw [← ih, e3]
        simp

theorem split_spl (c : UInt8) (l : List UInt8) : Lib.split l [c] = spl c l := splitK_spl c l _ (by rw [Lib.count_one]; exact Nat.le_refl _)

theorem spl_length (c : UInt8) (l : List UInt8) : (spl c l).length = l.count c + 1 := by
  induction l with
  | nil => rfl
  | cons b l ih =>
    simp only [spl]
    split
    · rename_i h; subst h; simp [ih]
    · rename_i h
      rw [List.count_cons_of_ne h, List.length_cons, List.length_tail, ih]
      omega

theorem wrap_succ {i : Nat} (h : i < 9223372036854775807) : IntKind.i64.wrap ((i : Int) + 1) = ((i + 1 : Nat) : Int) := by
  rw [wrap_i64 (by omega) (by omega)]
  omega

end Go.Pw
