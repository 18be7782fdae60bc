/-
  PW, part D: the operations that only reckon with values.
-/
import Derived.Test.YtjhgmempnhjflaaDoorPwC
namespace Go.Pw
open Go Go.RowKit

def intK (op : BinOp) (k : IntKind) (x : Int) (k' : IntKind) (y : Int) (N : Value → Prop) : Prop :=
  match op with
  | .shl => 0 ≤ y ∧ N (.int k (k.wrap (x * 2 ^ (min y.toNat k.bits))))
  | .shr => 0 ≤ y ∧ N (.int k (x.fdiv (2 ^ (min y.toNat k.bits))))
  | .add => k = k' ∧ N (.int k (k.wrap (x + y)))
  | .sub => k = k' ∧ N (.int k (k.wrap (x - y)))
  | .mul => k = k' ∧ N (.int k (k.wrap (x * y)))
  | .quo => k = k' ∧ y ≠ 0 ∧ N (.int k (k.wrap (x.tdiv y)))
  | .rem => k = k' ∧ y ≠ 0 ∧ N (.int k (x.tmod y))
  | .and => k = k' ∧ N (.int k (k.wrap (BitVec.ofInt k.bits x &&& BitVec.ofInt k.bits y).toNat))
  | .or => k = k' ∧ N (.int k (k.wrap (BitVec.ofInt k.bits x ||| BitVec.ofInt k.bits y).toNat))
  | .xor => k = k' ∧ N (.int k (k.wrap (BitVec.ofInt k.bits x ^^^ BitVec.ofInt k.bits y).toNat))
  | .andNot => k = k' ∧ N (.int k (k.wrap (BitVec.ofInt k.bits x &&& ~~~ BitVec.ofInt k.bits y).toNat))
  | .eql => k = k' ∧ N (.bool (x == y))
  | .neq => k = k' ∧ N (.bool (x != y))
  | .lss => k = k' ∧ N (.bool (decide (x < y)))
  | .leq => k = k' ∧ N (.bool (decide (x ≤ y)))
  | .gtr => k = k' ∧ N (.bool (decide (x > y)))
  | .geq => k = k' ∧ N (.bool (decide (x ≥ y)))

def strK (op : BinOp) (x y : ByteArray) (N : Value → Prop) : Prop :=
  match op with
  | .add => x.size + y.size ≤ 9223372036854775807 ∧ N (.string (x ++ y))
  | .eql => N (.bool (x.toList == y.toList))
  | .neq => N (.bool !(x.toList == y.toList))
  | .lss => N (.bool (Op.bytesLess x.toList y.toList))
  | .leq => N (.bool (Op.bytesLess x.toList y.toList || x.toList == y.toList))
  | .gtr => N (.bool !(Op.bytesLess x.toList y.toList || x.toList == y.toList))
  | .geq => N (.bool !(Op.bytesLess x.toList y.toList))
  | _ => False

def eqK (op : BinOp) (b : Bool) (N : Value → Prop) : Prop :=
  match op with
  | .eql => N (.bool b)
  | .neq => N (.bool !b)
  | _ => False

def isPtr : Option TypeDesc → Prop
  | some (.pointer _) => True
  | _ => False

def isIface : Option TypeDesc → Prop
  | some (.interface _) => True
  | _ => False

def binK (d : Option TypeDesc) (op : BinOp) (a b : Value) (N : Value → Prop) : Prop :=
  match a, b with
  | .int k x, .int k' y => intK op k x k' y N
  | .string x, .string y => strK op x y N
  | .bool x, .bool y => d = some .bool ∧ eqK op (x == y) N
  | .pointer none, .pointer none => isPtr d ∧ eqK op true N
  | _, _ => False

theorem intK_ok {P : Program} {op : BinOp} {k k' : IntKind} {x y : Int} {N : Value → Prop} (H : intK op k x k' y N) (t : TypeId) :
    ∃ v, N v ∧ v.oneCell' = true ∧ ∀ w, (binOp op t (.int k x) (.int k' y)).run P w = .ok v w := by
  cases op <;> simp only [intK] at H
  case shl => exact ⟨_, H.2, rfl, fun w => by simp [binOp, Op.shift, Int.not_lt.2 H.1]⟩
  case shr => exact ⟨_, H.2, rfl, fun w => by simp [binOp, Op.shift, Int.not_lt.2 H.1]⟩
  case quo => obtain ⟨rfl, h0, H⟩ := H; exact ⟨_, H, rfl, fun w => by simp [binOp, Op.intDiv, h0]⟩
  case rem => obtain ⟨rfl, h0, H⟩ := H; exact ⟨_, H, rfl, fun w => by simp [binOp, Op.intDiv, h0]⟩
  all_goals
    obtain ⟨rfl, H⟩ := H
    exact ⟨_, H, rfl, fun w => by simp [binOp, Op.intArith, Op.intBits, Op.intCmp]⟩

theorem strK_ok {P : Program} {op : BinOp} {x y : ByteArray} {N : Value → Prop} (H : strK op x y N) (t : TypeId) :
    ∃ v, N v ∧ v.oneCell' = true ∧ ∀ w, (binOp op t (.string x) (.string y)).run P w = .ok v w := by
  cases op <;> simp only [strK] at H
  case add =>
    have h := H.1
    exact ⟨_, H.2, rfl, fun w => by
      have : ¬ ((x.size + y.size : Nat) : Int) > IntKind.i64.max := by
        have e : IntKind.i64.max = 9223372036854775807 := by decide
        rw [e]; omega
      simp only [binOp, Op.stringOp]
      rw [if_neg this]
      rfl⟩
  all_goals exact ⟨_, H, rfl, fun w => by simp [binOp, Op.stringOp]⟩

theorem equal_bool {P : Program} {t : TypeId} (hd : P.underlying t = some .bool) (x y : Bool) (w : World) : (Op.equal t (.bool x) (.bool y)).run P w = .ok (x == y) w := by
  have key : ∀ d, (Op.equalIn (d + 1) t (.bool x) (.bool y)).run P w = .ok (x == y) w := fun d => by simp only [Op.equalIn, Sem.run_bind, run_underlying hd, Result.andThen_ok]; rfl
  exact key 9999

theorem equal_ptr {P : Program} {t e : TypeId} (hd : P.underlying t = some (.pointer e)) (p : Option Addr) (w : World) : (Op.equal t (.pointer p) (.pointer none)).run P w = .ok p.isNone w := by
  have key : ∀ d, (Op.equalIn (d + 1) t (.pointer p) (.pointer none)).run P w = .ok p.isNone w := fun d => by
    cases p <;> (simp only [Op.equalIn, Sem.run_bind, run_underlying hd, Result.andThen_ok]; rfl)
  exact key 9999

theorem binK_ok {P : Program} {op : BinOp} {a b : Value} {N : Value → Prop} {t : TypeId} (H : binK (P.underlying t) op a b N) :
    ∃ v, N v ∧ v.oneCell' = true ∧ ∀ w, (binOp op t a b).run P w = .ok v w := by
  unfold binK at H
  split at H
  · exact intK_ok H t
  · exact strK_ok H t
  · obtain ⟨hd, H⟩ := H
    cases op <;> simp only [eqK] at H
    case eql => exact ⟨_, H, rfl, fun w => by simp only [binOp, Sem.run_bind, equal_bool hd, Result.andThen_ok]; rfl⟩
    case neq => exact ⟨_, H, rfl, fun w => by simp only [binOp, Sem.run_bind, equal_bool hd, Result.andThen_ok]; rfl⟩
  · obtain ⟨hd, H⟩ := H
    obtain ⟨e, hd⟩ : ∃ e, P.underlying t = some (.pointer e) := by
      unfold isPtr at hd
      split at hd
      · exact ⟨_, by assumption⟩
      · exact hd.elim
    cases op <;> simp only [eqK] at H
    case eql => exact ⟨_, H, rfl, fun w => by simp only [binOp, Sem.run_bind, equal_ptr hd, Result.andThen_ok]; rfl⟩
    case neq => exact ⟨_, H, rfl, fun w => by simp only [binOp, Sem.run_bind, equal_ptr hd, Result.andThen_ok]; rfl⟩
  · exact H.elim

theorem eqGuard_ok {P : Program} {op : BinOp} {a b : Value} {N : Value → Prop} {t : TypeId} (H : binK (P.underlying t) op a b N) (x y : Operand) (w : World) :
    (eqGuard op t x y a b).run P w = .ok () w := by
  unfold binK at H
  split at H <;> first
    | exact H.elim
    | (unfold eqGuard; cases op <;> simp)

/-- A pointer that is none of nil's against nil. -/
theorem ptrNil_ok {P : Program} {op : BinOp} {ad : Addr} {N : Value → Prop} {t : TypeId} (hd : isPtr (P.underlying t)) (H : eqK op false N) (x y : Operand) :
    ∃ v, N v ∧ v.oneCell' = true ∧ ∀ w, (do eqGuard op t x y (.pointer (some ad)) (.pointer none); binOp op t (.pointer (some ad)) (.pointer none) : Sem Value).run P w = .ok v w := by
  obtain ⟨e, hd⟩ : ∃ e, P.underlying t = some (.pointer e) := by
    unfold isPtr at hd
    split at hd
    · exact ⟨_, by assumption⟩
    · exact hd.elim
  cases op <;> simp only [eqK] at H
  case eql => exact ⟨_, H, rfl, fun w => by simp only [eqGuard, binOp, Sem.run_bind, equal_ptr hd, Result.andThen_ok]; rfl⟩
  case neq => exact ⟨_, H, rfl, fun w => by simp only [eqGuard, binOp, Sem.run_bind, equal_ptr hd, Result.andThen_ok]; rfl⟩

def unK (op : UnOp) (a : Value) (N : Value → Prop) : Prop :=
  match op, a with
  | .neg, .int k x => N (.int k (k.wrap (0 - x)))
  | .xor, .int k x => N (.int k (k.wrap (BitVec.ofInt k.bits (if k.signed then -1 else k.max) ^^^ BitVec.ofInt k.bits x).toNat))
  | .not, .bool b => N (.bool !b)
  | _, _ => False

theorem unK_ok {P : Program} {op : UnOp} {a : Value} {N : Value → Prop} (H : unK op a N) : ∃ v, N v ∧ v.oneCell' = true ∧ ∀ w, (Op.unary op a).run P w = .ok v w := by
  unfold unK at H
  split at H
  · exact ⟨_, H, rfl, fun w => by simp [Op.unary, Op.intArith]⟩
  · exact ⟨_, H, rfl, fun w => by simp [Op.unary, Op.intBits]⟩
  · exact ⟨_, H, rfl, fun w => by simp [Op.unary]⟩
  · exact H.elim

end Go.Pw
