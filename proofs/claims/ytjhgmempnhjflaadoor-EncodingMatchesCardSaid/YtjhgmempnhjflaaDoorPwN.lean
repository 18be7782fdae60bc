/-
  PW, part N: the steps by which a body is walked.
-/
import Derived.Test.YtjhgmempnhjflaaDoorPwM
namespace Go.Pw
open Go Go.RowKit

def upd (e : Nat → Slot) (d : Nat) (r : Slot) : Nat → Slot := fun i => if i = d then r else e i
theorem upd_at (e : Nat → Slot) (d : Nat) (r : Slot) (i : Nat) : upd e d r i = if i = d then r else e i := rfl

section
variable {P : Program} {W0 : World} {n : Nat} {K : Exit → St → Prop} {σ : St} {ops : Array Oper} {N : St → Prop} {o : Oper} {rest : List Oper} {e : Nat → Slot} {h : Hp}

/-- An operation without a guard, with a destination. -/
theorem pops_to {d : Nat} {op : Op} {ty : TypeId} {pos : String} {af : Array Edge} (hd : decide (d < n) = true)
    (H : ∀ M : Slot → Hp → Prop, (∀ r h', pops P W0 n ops N rest ⟨upd e d r, h'⟩ → M r h') → pop P W0 ⟨e, h⟩ ⟨some d, op, ty, pos, af, none⟩ M) :
    pops P W0 n ops N (⟨some d, op, ty, pos, af, none⟩ :: rest) ⟨e, h⟩ :=
  ⟨_, .refl _ _, hd, H _ fun _ _ x => x⟩

theorem pops_no {op : Op} {ty : TypeId} {pos : String} {af : Array Edge}
    (H : ∀ M : Slot → Hp → Prop, (∀ r h', pops P W0 n ops N rest ⟨e, h'⟩ → M r h') → pop P W0 ⟨e, h⟩ ⟨none, op, ty, pos, af, none⟩ M) :
    pops P W0 n ops N (⟨none, op, ty, pos, af, none⟩ :: rest) ⟨e, h⟩ :=
  ⟨_, .refl _ _, rfl, H _ fun _ _ x => x⟩

/-- A guarded operation whose guard's outcome is known. -/
theorem pops_do {d j g : Nat} {want : Bool} {op : Op} {ty : TypeId} {pos : String} {af : Array Edge} (hd : decide (d < n) = true) (hj : (ops[j]?).bind (·.dst) = some g) (hg : e g = .sv (.one (.val (.bool want))))
    (H : ∀ M : Slot → Hp → Prop, (∀ r h', pops P W0 n ops N rest ⟨upd e d r, h'⟩ → M r h') → pop P W0 ⟨e, h⟩ ⟨some d, op, ty, pos, af, some (j, want)⟩ M) :
    pops P W0 n ops N (⟨some d, op, ty, pos, af, some (j, want)⟩ :: rest) ⟨e, h⟩ := by
  refine ⟨_, .refl _ _, hd, ?_⟩
  simp only [wantP, hj, hg]
  exact ⟨fun _ => H _ fun _ _ x => x, fun x => absurd rfl x⟩

theorem pops_off {d j g : Nat} {want b : Bool} {op : Op} {ty : TypeId} {pos : String} {af : Array Edge} (hd : decide (d < n) = true) (hj : (ops[j]?).bind (·.dst) = some g) (hg : e g = .sv (.one (.val (.bool b)))) (hb : b ≠ want)
    (H : pops P W0 n ops N rest ⟨upd e d (.tup []), h⟩) :
    pops P W0 n ops N (⟨some d, op, ty, pos, af, some (j, want)⟩ :: rest) ⟨e, h⟩ := by
  refine ⟨_, .refl _ _, hd, ?_⟩
  simp only [wantP, hj, hg]
  exact ⟨fun x => absurd x hb, fun _ => H⟩

theorem pops_off0 {d j g : Nat} {want : Bool} {op : Op} {ty : TypeId} {pos : String} {af : Array Edge} (hd : decide (d < n) = true) (hj : (ops[j]?).bind (·.dst) = some g) (hg : e g = .tup [])
    (H : pops P W0 n ops N rest ⟨upd e d (.tup []), h⟩) :
    pops P W0 n ops N (⟨some d, op, ty, pos, af, some (j, want)⟩ :: rest) ⟨e, h⟩ := by
  refine ⟨_, .refl _ _, hd, ?_⟩
  simp only [wantP, hj, hg]
  exact H

/-- A move. -/
theorem pops_mv {d : Nat} {x : Operand} {r : Slot} {ty : TypeId} {pos : String} {af : Array Edge} {op : Op} (hop : op = .move x ∨ op = .assign x) (hd : decide (d < n) = true) (hx : (⟨e, h⟩ : St).eval x = r) (H : pops P W0 n ops N rest ⟨upd e d r, h⟩) :
    pops P W0 n ops N (⟨some d, op, ty, pos, af, none⟩ :: rest) ⟨e, h⟩ := by
  subst hx
  refine pops_to hd fun M hM => ?_
  rcases hop with rfl | rfl <;> exact hM _ _ H

theorem pops_mvg {d j g : Nat} {want : Bool} {x : Operand} {r : Slot} {ty : TypeId} {pos : String} {af : Array Edge} {op : Op} (hop : op = .move x ∨ op = .assign x) (hd : decide (d < n) = true) (hj : (ops[j]?).bind (·.dst) = some g) (hg : e g = .sv (.one (.val (.bool want))))
    (hx : (⟨e, h⟩ : St).eval x = r) (H : pops P W0 n ops N rest ⟨upd e d r, h⟩) :
    pops P W0 n ops N (⟨some d, op, ty, pos, af, some (j, want)⟩ :: rest) ⟨e, h⟩ := by
  subst hx
  refine pops_do hd hj hg fun M hM => ?_
  rcases hop with rfl | rfl <;> exact hM _ _ H

theorem pops_done (H : N σ) : pops P W0 n ops N [] σ := ⟨_, .refl _ _, H⟩

/-- A piece of code, and what follows, hidden. -/
theorem pwp_then {x y : Code} (H : ∀ M : St → Prop, (∀ σ, PWP P W0 n y K σ → M σ) → PWP P W0 n x (thenK M K) σ) : PWP P W0 n (.seq x y) K σ :=
  pwp_seq (H _ fun _ h => h)

theorem pwp_reg {id : Nat} {l : List Oper} (H : ∀ M : St → Prop, (∀ σ, K .normal σ → M σ) → pops P W0 n l.toArray M l σ) : PWP P W0 n (.region id l.toArray false) K σ :=
  pwp_region (H _ fun _ h => h)

end


/-- The heap as it was, but for what was made and is forgotten. -/
def Same (h h' : Hp) : Prop := h'.blk = h.blk ∧ h.lim ≤ h'.lim
theorem Same.refl (h : Hp) : Same h h := ⟨rfl, Nat.le_refl _⟩
theorem Same.trans {a b c : Hp} (x : Same a b) (y : Same b c) : Same a c := ⟨y.1.trans x.1, Nat.le_trans x.2 y.2⟩
theorem Same.less {h h' : Hp} (x : Same h h') : Less h h' := ⟨fun id b hb => by rw [← x.1]; exact hb, x.2⟩

/-- What two ways of a short circuit agree on. -/
def anyAt : List Nat → (Nat → Slot) → Nat → Slot
  | [], e => e
  | d :: ds, e => anyAt ds (upd e d .any)
theorem anyAt_nil (e : Nat → Slot) : anyAt [] e = e := rfl
theorem anyAt_cons (d : Nat) (ds : List Nat) (e : Nat → Slot) : anyAt (d :: ds) e = anyAt ds (upd e d .any) := rfl

section
variable {P : Program} {W0 : World} {n : Nat} {ops : Array Oper} {N : St → Prop} {e e' : Nat → Slot} {h : Hp}

theorem wk_same {d : Nat} {r : Slot} (k : Wk W0 ⟨e, h⟩ ⟨e', h⟩) : Wk W0 ⟨upd e d r, h⟩ ⟨upd e' d r, h⟩ :=
  ⟨k.less, fun w m R i v hl => by
    simp only [upd] at hl ⊢
    split
    · rename_i hi; rw [if_pos hi] at hl; exact hl
    · rename_i hi; rw [if_neg hi] at hl; exact k.env w m R i v hl⟩
theorem wk_any {d : Nat} {r : Slot} (k : Wk W0 ⟨e, h⟩ ⟨e', h⟩) : Wk W0 ⟨upd e d r, h⟩ ⟨upd e' d .any, h⟩ :=
  ⟨k.less, fun w m R i v hl => by
    simp only [upd] at hl ⊢
    split
    · trivial
    · rename_i hi; rw [if_neg hi] at hl; exact k.env w m R i v hl⟩

theorem pops_app_eq (l2 : List Oper) : ∀ l1 : List Oper, pops P W0 n ops N (l1 ++ l2) = pops P W0 n ops (fun σ => pops P W0 n ops N l2 σ) l1
  | [] => funext fun σ => propext ⟨fun H => ⟨σ, .refl _ _, H⟩, fun ⟨_, k, H⟩ => pops_wk H k⟩
  | o :: l1 => by funext σ; simp only [List.cons_append, pops, pops_app_eq l2 l1]

theorem pops_cut (k : Nat) {l : List Oper} {σ : St} (H : pops P W0 n ops (fun σ => pops P W0 n ops N (l.drop k) σ) (l.take k) σ) : pops P W0 n ops N l σ := by
  rw [← pops_app_eq, List.take_append_drop] at H
  exact H

/-- a || b, where b is asked only if a is false. -/
theorem pops_or (k g d : Nat) (ds : List Nat) {l : List Oper} {b v : Bool} (hg : e g = .sv (.one (.val (.bool b))))
    (Hon : b = false → ∀ J : St → Prop, (∀ σ h', Same h h' → Wk W0 σ ⟨upd (anyAt ds e) d (.sv (.one (.val (.bool v)))), h'⟩ → J σ) → pops P W0 n ops J (l.take k) ⟨e, h⟩)
    (Hoff : b = true → ∀ J : St → Prop, (∀ σ h', Same h h' → Wk W0 σ ⟨upd (anyAt ds e) d (.sv (.one (.val (.bool true)))), h'⟩ → J σ) → pops P W0 n ops J (l.take k) ⟨e, h⟩)
    (H : ∀ h', Same h h' → pops P W0 n ops N (l.drop k) ⟨upd (anyAt ds e) d (.sv (.one (.val (.bool (b || v))))), h'⟩) : pops P W0 n ops N l ⟨e, h⟩ := by
  refine pops_cut k ?_
  cases b with
  | false => exact Hon rfl _ fun σ h' s wk => pops_wk (H h' s) (by simpa using wk)
  | true => exact Hoff rfl _ fun σ h' s wk => pops_wk (H h' s) (by simpa using wk)

/-- a && b, where b is asked only if a is true. -/
theorem pops_and (k g d : Nat) (ds : List Nat) {l : List Oper} {b v : Bool} (hg : e g = .sv (.one (.val (.bool b))))
    (Hon : b = true → ∀ J : St → Prop, (∀ σ h', Same h h' → Wk W0 σ ⟨upd (anyAt ds e) d (.sv (.one (.val (.bool v)))), h'⟩ → J σ) → pops P W0 n ops J (l.take k) ⟨e, h⟩)
    (Hoff : b = false → ∀ J : St → Prop, (∀ σ h', Same h h' → Wk W0 σ ⟨upd (anyAt ds e) d (.sv (.one (.val (.bool false)))), h'⟩ → J σ) → pops P W0 n ops J (l.take k) ⟨e, h⟩)
    (H : ∀ h', Same h h' → pops P W0 n ops N (l.drop k) ⟨upd (anyAt ds e) d (.sv (.one (.val (.bool (b && v))))), h'⟩) : pops P W0 n ops N l ⟨e, h⟩ := by
  refine pops_cut k ?_
  cases b with
  | true => exact Hon rfl _ fun σ h' s wk => pops_wk (H h' s) (by simpa using wk)
  | false => exact Hoff rfl _ fun σ h' s wk => pops_wk (H h' s) (by simpa using wk)

/-- The same, where the heap stays. -/
theorem pops_or0 (k g d : Nat) (ds : List Nat) {l : List Oper} {b v : Bool} (hg : e g = .sv (.one (.val (.bool b))))
    (Hon : b = false → ∀ J : St → Prop, (∀ σ, Wk W0 σ ⟨upd (anyAt ds e) d (.sv (.one (.val (.bool v)))), h⟩ → J σ) → pops P W0 n ops J (l.take k) ⟨e, h⟩)
    (Hoff : b = true → ∀ J : St → Prop, (∀ σ, Wk W0 σ ⟨upd (anyAt ds e) d (.sv (.one (.val (.bool true)))), h⟩ → J σ) → pops P W0 n ops J (l.take k) ⟨e, h⟩)
    (H : pops P W0 n ops N (l.drop k) ⟨upd (anyAt ds e) d (.sv (.one (.val (.bool (b || v))))), h⟩) : pops P W0 n ops N l ⟨e, h⟩ := by
  refine pops_cut k ?_
  cases b with
  | false => exact Hon rfl _ fun σ wk => pops_wk H (by simpa using wk)
  | true => exact Hoff rfl _ fun σ wk => pops_wk H (by simpa using wk)

theorem pops_and0 (k g d : Nat) (ds : List Nat) {l : List Oper} {b v : Bool} (hg : e g = .sv (.one (.val (.bool b))))
    (Hon : b = true → ∀ J : St → Prop, (∀ σ, Wk W0 σ ⟨upd (anyAt ds e) d (.sv (.one (.val (.bool v)))), h⟩ → J σ) → pops P W0 n ops J (l.take k) ⟨e, h⟩)
    (Hoff : b = false → ∀ J : St → Prop, (∀ σ, Wk W0 σ ⟨upd (anyAt ds e) d (.sv (.one (.val (.bool false)))), h⟩ → J σ) → pops P W0 n ops J (l.take k) ⟨e, h⟩)
    (H : pops P W0 n ops N (l.drop k) ⟨upd (anyAt ds e) d (.sv (.one (.val (.bool (b && v))))), h⟩) : pops P W0 n ops N l ⟨e, h⟩ := by
  refine pops_cut k ?_
  cases b with
  | true => exact Hon rfl _ fun σ wk => pops_wk H (by simpa using wk)
  | false => exact Hoff rfl _ fun σ wk => pops_wk H (by simpa using wk)

end

abbrev pstr (l : List UInt8) : PV := .val (.string ⟨l.toArray⟩)
abbrev pint (n : Int) : PV := .val (.int .i64 n)
abbrev pbool (b : Bool) : PV := .val (.bool b)

theorem wrap_i64 {x : Int} (h1 : -9223372036854775808 ≤ x) (h2 : x ≤ 9223372036854775807) : IntKind.i64.wrap x = x := by
  rw [IntKind.wrap_i64]; omega


section
variable {P : Program} {W0 : World} {n : Nat} {c : Code} {f : FuncId} {fn : Func} {h : Hp} {R : Slot → Hp → Prop} {a a1 a2 a3 a4 a5 : SV}

def none0 : Nat → Slot := fun _ => .tup []

theorem entry0 : entryEnv [] = none0 := by funext i; simp [entryEnv, none0]
theorem entryS (as : List SV) (x : SV) : entryEnv (as ++ [x]) = upd (entryEnv as) as.length (.sv x) := by
  funext i
  simp only [entryEnv, upd, List.getElem?_append]
  by_cases h1 : i < as.length
  · rw [if_pos h1, if_neg (by omega)]
  · rw [if_neg h1]
    by_cases h2 : i = as.length
    · rw [if_pos h2]; simp [h2]
    · rw [if_neg h2, List.getElem?_eq_none (by simp; omega), List.getElem?_eq_none (by omega)]

abbrev hpOk (h : Hp) : Prop := ∀ id b, h.blk id = some b → id < h.lim

theorem pcalls0 (hf : P.funcs[f]? = some fn) (hb : fn.body = some c) (hn : (fn.name == "runtime.NumGoroutine") = false) (hs : n = fn.ntmps)
    (H : hpOk h → PWP P W0 n c (bodyK W0 fn R) ⟨none0, h⟩) : PCalls P W0 f [] h R :=
  pcalls_body hf hb hn (by simpa using hs) (by rw [entry0]; exact H)
theorem pcalls1 (hf : P.funcs[f]? = some fn) (hb : fn.body = some c) (hn : (fn.name == "runtime.NumGoroutine") = false) (hs : n = 1 + (fn.ntmps - 1))
    (H : hpOk h → PWP P W0 n c (bodyK W0 fn R) ⟨upd none0 0 (.sv a), h⟩) : PCalls P W0 f [a] h R :=
  pcalls_body hf hb hn hs (by rw [show [a] = [] ++ [a] from rfl, entryS, entry0]; exact H)
theorem pcalls2 (hf : P.funcs[f]? = some fn) (hb : fn.body = some c) (hn : (fn.name == "runtime.NumGoroutine") = false) (hs : n = 2 + (fn.ntmps - 2))
    (H : hpOk h → PWP P W0 n c (bodyK W0 fn R) ⟨upd (upd none0 0 (.sv a)) 1 (.sv a1), h⟩) : PCalls P W0 f [a, a1] h R :=
  pcalls_body hf hb hn hs (by rw [show [a, a1] = ([] ++ [a]) ++ [a1] from rfl, entryS, entryS, entry0]; exact H)
theorem pcalls3 (hf : P.funcs[f]? = some fn) (hb : fn.body = some c) (hn : (fn.name == "runtime.NumGoroutine") = false) (hs : n = 3 + (fn.ntmps - 3))
    (H : hpOk h → PWP P W0 n c (bodyK W0 fn R) ⟨upd (upd (upd none0 0 (.sv a)) 1 (.sv a1)) 2 (.sv a2), h⟩) : PCalls P W0 f [a, a1, a2] h R :=
  pcalls_body hf hb hn hs (by rw [show [a, a1, a2] = (([] ++ [a]) ++ [a1]) ++ [a2] from rfl, entryS, entryS, entryS, entry0]; exact H)
theorem pcalls4 (hf : P.funcs[f]? = some fn) (hb : fn.body = some c) (hn : (fn.name == "runtime.NumGoroutine") = false) (hs : n = 4 + (fn.ntmps - 4))
    (H : hpOk h → PWP P W0 n c (bodyK W0 fn R) ⟨upd (upd (upd (upd none0 0 (.sv a)) 1 (.sv a1)) 2 (.sv a2)) 3 (.sv a3), h⟩) : PCalls P W0 f [a, a1, a2, a3] h R :=
  pcalls_body hf hb hn hs (by rw [show [a, a1, a2, a3] = ((([] ++ [a]) ++ [a1]) ++ [a2]) ++ [a3] from rfl, entryS, entryS, entryS, entryS, entry0]; exact H)
theorem pcalls5 (hf : P.funcs[f]? = some fn) (hb : fn.body = some c) (hn : (fn.name == "runtime.NumGoroutine") = false) (hs : n = 5 + (fn.ntmps - 5))
    (H : hpOk h → PWP P W0 n c (bodyK W0 fn R) ⟨upd (upd (upd (upd (upd none0 0 (.sv a)) 1 (.sv a1)) 2 (.sv a2)) 3 (.sv a3)) 4 (.sv a4), h⟩) : PCalls P W0 f [a, a1, a2, a3, a4] h R :=
  pcalls_body hf hb hn hs (by rw [show [a, a1, a2, a3, a4] = (((([] ++ [a]) ++ [a1]) ++ [a2]) ++ [a3]) ++ [a4] from rfl, entryS, entryS, entryS, entryS, entryS, entry0]; exact H)
end

theorem str_size (l : List UInt8) : (⟨l.toArray⟩ : ByteArray).size = l.length := by
  show l.toArray.size = l.length
  simp
theorem str_app (a b : List UInt8) : (⟨a.toArray⟩ : ByteArray) ++ ⟨b.toArray⟩ = ⟨(a ++ b).toArray⟩ := by
  apply ByteArray.ext
  simp [ByteArray.data_append]
theorem str_cut (l : List UInt8) (i j : Nat) : (⟨l.toArray⟩ : ByteArray).extract i j = ⟨((l.take j).drop i).toArray⟩ := by
  apply ByteArray.ext
  simp [List.drop_take]
theorem str_get (l : List UInt8) (i : Nat) : (⟨l.toArray⟩ : ByteArray)[i]? = l[i]? := by
  show (if h : i < (⟨l.toArray⟩ : ByteArray).size then some ((⟨l.toArray⟩ : ByteArray)[i]) else none) = _
  by_cases h : i < l.length
  · rw [dif_pos (by rw [str_size]; exact h), List.getElem?_eq_getElem h]
    rfl
  · rw [dif_neg (by rw [str_size]; exact h), List.getElem?_eq_none (by omega)]
theorem str_data (l : List UInt8) : (⟨l.toArray⟩ : ByteArray).data.toList = l := by simp

end Go.Pw
