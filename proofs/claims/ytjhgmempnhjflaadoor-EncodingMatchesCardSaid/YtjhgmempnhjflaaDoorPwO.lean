/-
  PW, part O: texts as lists; a guard parted; functions that only reckon.
-/
import Derived.Test.YtjhgmempnhjflaaDoorPwN
import Derived.Scope
namespace Go.Pw
open Go Go.RowKit

theorem toList_loop (bs : ByteArray) : ∀ (n i : Nat) (r : List UInt8), bs.size - i = n → ByteArray.toList.loop bs i r = r.reverse ++ bs.data.toList.drop i := by
  intro n
  induction n with
  | zero =>
    intro i r hn
    rw [ByteArray.toList.loop]
    have hs : bs.data.toList.length = bs.size := by simp
    rw [if_neg (by omega), List.drop_eq_nil_of_le (by omega), List.append_nil]
  | succ n ih =>
    intro i r hn
    rw [ByteArray.toList.loop]
    have hi : i < bs.size := by omega
    rw [if_pos hi, ih (i + 1) _ (by omega)]
    have hs : bs.data.toList.length = bs.size := by simp
    rw [List.drop_eq_getElem_cons (l := bs.data.toList) (i := i) (by omega)]
    have hg : bs.get! i = bs.data.toList[i]'(by omega) := by
      show bs.data[i]! = _
      rw [getElem!_pos bs.data i hi, Array.getElem_toList]
    rw [hg]
    simp

theorem toList_data (bs : ByteArray) : bs.toList = bs.data.toList := by
  have := toList_loop bs bs.size 0 [] rfl
  simpa [ByteArray.toList] using this

theorem str_list (l : List UInt8) : (⟨l.toArray⟩ : ByteArray).toList = l := by rw [toList_data]

section
variable {P : Program} {W0 : World} {n : Nat} {K : Exit → St → Prop} {σ : St} {ops : Array Oper} {N : St → Prop} {o : Oper} {rest : List Oper} {e : Nat → Slot} {h : Hp}

/-- A guard whose outcome isn't known: both ways. -/
theorem pops_split (g : Nat) {b : Bool} (hg : e g = .sv (.one (.val (.bool b)))) (H1 : b = true → pops P W0 n ops N rest ⟨e, h⟩) (H2 : b = false → pops P W0 n ops N rest ⟨e, h⟩) : pops P W0 n ops N rest ⟨e, h⟩ := by
  cases b with
  | true => exact H1 rfl
  | false => exact H2 rfl

theorem popIf {t : Bool} {a b : Prop} : ((t = true → a) ∧ (t = false → b)) ↔ (if t then a else b) := by cases t <;> simp

end

/-- A scope through which the run goes without a jump. -/
def scopeK (K : Exit → St → Prop) : Exit → St → Prop
  | .goto _, _ => False
  | e, σ => K e σ

theorem pwp_scope {P : Program} {W0 : World} {n : Nat} {K : Exit → St → Prop} {σ : St} {c : Code} (H : PWP P W0 n c (scopeK K) σ) : PWP P W0 n (.scope c) K σ := by
  intro we he me a w m R
  refine wp_scope_straight (wp_mono (H we he me a w m R) ?_)
  rintro e a' w' ⟨σ', m', hk, r⟩
  cases e with
  | goto l => exact hk.elim
  | _ => exact ⟨σ', m', hk, r⟩

/-- A function that only reckons. -/
def PFun (P : Program) (W0 : World) (f : FuncId) (args : List SV) (r : Slot) : Prop := ∀ h, PCalls P W0 f args h (fun r' h' => r' = r ∧ Same h h')

theorem PFun.use {P : Program} {W0 : World} {f : FuncId} {args : List SV} {r : Slot} (H : PFun P W0 f args r) {h : Hp} {M : Slot → Hp → Prop} (hm : ∀ h', Same h h' → M r h') : PCalls P W0 f args h M :=
  (H h).mono fun _ h' ⟨e, s⟩ => e ▸ hm h' s

theorem endFun {W0 : World} {h h1 : Hp} {s r : Slot} (hs : Same h h1) (hr : s = r) : ∃ r' h', SlotWk W0 h1 s h' r' ∧ (r' = r ∧ Same h h') :=
  ⟨s, h1, .refl _ _ _, hr, hs⟩

end Go.Pw
