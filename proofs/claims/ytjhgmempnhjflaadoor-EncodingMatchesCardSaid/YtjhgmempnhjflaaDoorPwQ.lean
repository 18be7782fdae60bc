/-
  PW, part Q: blocks of one's own, made and forgotten.
-/
import Derived.Test.YtjhgmempnhjflaaDoorPwP
namespace Go.Pw
open Go Go.RowKit

/-- What was there is there still. -/
def Keeps (h h' : Hp) : Prop := (∀ j b, h.blk j = some b → h'.blk j = some b) ∧ h.lim ≤ h'.lim
theorem Keeps.refl (h : Hp) : Keeps h h := ⟨fun _ _ x => x, Nat.le_refl _⟩
theorem Keeps.trans {a b c : Hp} (x : Keeps a b) (y : Keeps b c) : Keeps a c := ⟨fun j bl h => y.1 j bl (x.1 j bl h), Nat.le_trans x.2 y.2⟩
theorem Same.keeps {a b : Hp} (x : Same a b) : Keeps a b := ⟨fun j bl h => by rw [x.1]; exact h, x.2⟩
theorem Keeps.new {h : Hp} {id : Nat} {b : Blk} (hb : hpOk h) (hid : h.lim ≤ id) : Keeps h (h.new id b) :=
  ⟨fun j bl hj => by
    have := hb j bl hj
    simp only [Hp.new]
    rw [if_neg (by omega)]
    exact hj, by simp only [Hp.new]; omega⟩
theorem Keeps.set {h h' : Hp} {id : Nat} {b : Blk} (k : Keeps h h') (hb : hpOk h) (hid : h.lim ≤ id) : Keeps h (h'.set id b) :=
  ⟨fun j bl hj => by
    have := hb j bl hj
    simp only [Hp.set]
    rw [if_neg (by omega)]
    exact k.1 j bl hj, k.2⟩

/-- The heap, but for the blocks made since. -/
def Hp.back (h h1 : Hp) : Hp := ⟨h.blk, h1.lim⟩

theorem endKeeps {W0 : World} {h h1 : Hp} {s r : Slot} (hs : Keeps h h1) (hr : s = r) (hclosed : ∀ w m v, LR w h1 m s v → LR w (h.back h1) m s v := by intro _ _ _ x; exact x) :
    ∃ r' h', SlotWk W0 h1 s h' r' ∧ (r' = r ∧ Same h h') :=
  ⟨s, h.back h1, ⟨⟨fun id b hb => hs.1 id b hb, Nat.le_refl _⟩, fun w m _ v x => hclosed w m v x⟩, hr, rfl, hs.2⟩

theorem endKeeps1 {W0 : World} {h h1 : Hp} {s : Slot} {v : Value} (hs : Keeps h h1) (hr : s = .sv (.one (.val v))) :
    ∃ r' h', SlotWk W0 h1 s h' r' ∧ (r' = .sv (.one (.val v)) ∧ Same h h') :=
  endKeeps hs hr (by
    subst hr
    intro w m u x
    cases x with
    | val _ h1 => exact .val _ h1)

theorem blk_new (h : Hp) (id : Nat) (b : Blk) : (h.new id b).blk id = some b := by simp [Hp.new]
theorem blk_set (h : Hp) (id : Nat) (b : Blk) : (h.set id b).blk id = some b := by simp [Hp.set]

def inI64 (x : Int) : Prop := -9223372036854775808 ≤ x ∧ x ≤ 9223372036854775807

theorem popBuild_of {P : Program} {t : TypeId} {pl : List (Nat × Nat)} {z : Value} {cells : List PV} (h1 : placesOf P t = some pl) (h2 : zeroOf P t = some z) (h3 : z.cells.all (·.oneCell') = true) (h4 : zeroCells' z = cells)
    (parts : List (Nat × Slot)) (N : Slot → Prop) : popBuild P t parts N = (match fillP pl cells parts with | some ps => N (.sv (.agg ps)) | none => False) := by
  unfold popBuild
  rw [h1, h2]
  simp only [h3, h4, true_and]
  cases fillP pl cells parts <;> rfl

end Go.Pw
