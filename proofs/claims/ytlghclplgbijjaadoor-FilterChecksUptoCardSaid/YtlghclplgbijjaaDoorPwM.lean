/- Own work: part of the proof of the row YtlghclplgbijjaaDoorRowFilterChecksUpto; no condition of its own. -/
import Derived.Test.YtlghclplgbijjaaDoorPwG
import Derived.Scope
import Derived.StillTail
import Derived.Lib.SplitLaws
namespace Go.Pw
open Go Go.RowKit
section
variable {P : Program} {W0 : World} {n : Nat} {K : Exit → St → Prop} {σ : St} {ops : Array Oper}
def wantP (ops : Array Oper) (σ : St) (o : Oper) (Y Z : Prop) : Prop :=
  match o.guard with
  | none => Y
  | some (j, want) =>
    match (ops[j]?).bind (·.dst) with
    | none => Z
    | some d =>
      match σ.env d with
      | .sv (.one (.val (.bool b))) => (b = want → Y) ∧ (b ≠ want → Z)
      | .tup [] => Z
      | _ => False
def pops (P : Program) (W0 : World) (n : Nat) (ops : Array Oper) (N : St → Prop) : List Oper → St → Prop
  | [], σ => ∃ σ', Wk W0 σ σ' ∧ N σ'
  | o :: rest, σ0 => ∃ σ, Wk W0 σ0 σ ∧ dstOk n o.dst = true ∧ wantP ops σ o
      (pop P W0 σ o fun r h => pops P W0 n ops N rest (St.put ⟨σ.env, h⟩ o.dst r))
      (pops P W0 n ops N rest (σ.put o.dst (.tup [])))
theorem Wk.trans {a b c : St} (x : Wk W0 a b) (y : Wk W0 b c) : Wk W0 a c :=
  ⟨x.less.trans y.less, fun w m R i v h => y.env w m (R.less x.less) i v (x.env w m R i v h)⟩
theorem pops_wk {N : St → Prop} {l : List Oper} {σ' : St} (H : pops P W0 n ops N l σ') (k : Wk W0 σ σ') : pops P W0 n ops N l σ := by
  cases l with
  | nil => obtain ⟨σ1, a, b⟩ := H; exact ⟨σ1, k.trans a, b⟩
  | cons o l => obtain ⟨σ1, a, b⟩ := H; exact ⟨σ1, k.trans a, b⟩
theorem pops_ok {N : St → Prop} {we : World} {he : Hp} {me : Loc} {Q : Exit → Act → World → Prop} : ∀ (l : List Oper) (σ : St) (a : Act) (w : World) (m : Loc), Rel W0 we he me n σ a w m → pops P W0 n ops N l σ →
    (∀ σ a w m, N σ → Rel W0 we he me n σ a w m → Q .normal a w) → wpList P ops Q l a w
  | [], σ, a, w, m, R, H, hq => by
    obtain ⟨σ', k, H⟩ := H
    exact hq σ' a w m H (R.wk k)
  | o :: rest, σ0, a, w, m, R0, H, hq => by
    obtain ⟨σ, k, hd, H⟩ := H
    have R := R0.wk k
    have yes : pop P W0 σ o (fun r h => pops P W0 n ops N rest (St.put ⟨σ.env, h⟩ o.dst r)) → Region.wanted o (yielded ops a.tmps) = true → wpList P ops Q (o :: rest) a w := by
      intro hk hw
      refine wpList_step fun K hK => ?_
      rw [if_pos hw]
      refine (pop_ok R hk).wp ?_
      rintro v w' ⟨r, h', m', h1, h2, h3, h4⟩
      exact hK _ _ (pops_ok rest _ _ _ _ (R.step h3 h4 h2 hd) h1 hq)
    have no : pops P W0 n ops N rest (σ.put o.dst (.tup [])) → Region.wanted o (yielded ops a.tmps) = false → wpList P ops Q (o :: rest) a w := by
      intro hk hw
      refine wpList_step fun K hK => ?_
      rw [if_neg (by simp [hw])]
      exact hK _ _ (pops_ok rest _ _ _ _ (R.step (h' := σ.hp) R.hr (Ext.refl _ _ _) (LR.undef _ _ _) hd) hk hq)
    unfold wantP at H
    split at H
    · rename_i hg
      exact yes H (by simp [Region.wanted, hg])
    · rename_i j want hg
      split at H
      · rename_i hn
        exact no H (by simp [Region.wanted, hg, yielded, hn])
      · rename_i d hs
        have hy : ∀ v, a.tmps.getD d undef = v → yielded ops a.tmps j = (match v with | .bool b => some b | _ => none) := by
          intro v hv
          simp only [yielded, hs, Option.bind_some]
          rw [Array.getD_eq_getD_getElem?] at hv
          cases hc : a.tmps[d]? with
          | none => rw [hc] at hv; simp only [Option.getD_none] at hv; subst hv; rfl
          | some u =>
            rw [hc] at hv
            simp only [Option.getD_some] at hv
            subst hv
            cases u <;> rfl
        have he := R.env d
        split at H
        · rename_i b e
          rw [e] at he
          have hb : a.tmps.getD d undef = .bool b := by generalize a.tmps.getD d undef = q at he; cases he; rfl
          have hy' := hy _ hb
          by_cases hbw : b = want
          · exact yes (H.1 hbw) (by simp [Region.wanted, hg, hy', hbw])
          · exact no (H.2 hbw) (by simp [Region.wanted, hg, hy', hbw])
        · rename_i e
          rw [e] at he
          have hb : a.tmps.getD d undef = .tuple #[] := by
            obtain ⟨vs, hv, hl, _⟩ := he
            rw [hv]
            rw [List.eq_nil_of_length_eq_zero hl]
          exact no H (by simp [Region.wanted, hg, hy _ hb])
        · exact H.elim
theorem pwp_region {id : Nat} {l : List Oper} (H : pops P W0 n l.toArray (K .normal) l σ) : PWP P W0 n (.region id l.toArray false) K σ := by
  intro we he me a w m R
  exact wp_region_lit (pops_ok l σ a w m R H fun σ a w m hn hr => ⟨σ, m, hn, hr⟩)
end
end Go.Pw
namespace Go.Pw
open Go Go.RowKit
def upd (e : Nat → Slot) (d : Nat) (r : Slot) : Nat → Slot := fun i => if i = d then r else e i
theorem upd_at (e : Nat → Slot) (d : Nat) (r : Slot) (i : Nat) : upd e d r i = if i = d then r else e i := rfl
section
variable {P : Program} {W0 : World} {n : Nat} {K : Exit → St → Prop} {σ : St} {ops : Array Oper} {N : St → Prop} {o : Oper} {rest : List Oper} {e : Nat → Slot} {h : Hp}
theorem pops_to {d : Nat} {op : Op} {ty : TypeId} {pos : String} {af : Array Edge} (hd : decide (d < n) = true)
    (H : ∀ M : Slot → Hp → Prop, (∀ r h', pops P W0 n ops N rest ⟨upd e d r, h'⟩ → M r h') → pop P W0 ⟨e, h⟩ ⟨some d, op, ty, pos, af, none⟩ M) :
    pops P W0 n ops N (⟨some d, op, ty, pos, af, none⟩ :: rest) ⟨e, h⟩ :=
  ⟨_, .refl _ _, hd, H _ fun _ _ x => x⟩
theorem pops_no {op : Op} {ty : TypeId} {pos : String} {af : Array Edge}
    (H : ∀ M : Slot → Hp → Prop, (∀ r h', pops P W0 n ops N rest ⟨e, h'⟩ → M r h') → pop P W0 ⟨e, h⟩ ⟨none, op, ty, pos, af, none⟩ M) :
    pops P W0 n ops N (⟨none, op, ty, pos, af, none⟩ :: rest) ⟨e, h⟩ :=
  ⟨_, .refl _ _, rfl, H _ fun _ _ x => x⟩
theorem pops_do {d j g : Nat} {want : Bool} {op : Op} {ty : TypeId} {pos : String} {af : Array Edge} (hd : decide (d < n) = true) (hj : (ops[j]?).bind (·.dst) = some g) (hg : e g = .sv (.one (.val (.bool want))))
    (H : ∀ M : Slot → Hp → Prop, (∀ r h', pops P W0 n ops N rest ⟨upd e d r, h'⟩ → M r h') → pop P W0 ⟨e, h⟩ ⟨some d, op, ty, pos, af, some (j, want)⟩ M) :
    pops P W0 n ops N (⟨some d, op, ty, pos, af, some (j, want)⟩ :: rest) ⟨e, h⟩ := by
  refine ⟨_, .refl _ _, hd, ?_⟩
  simp only [wantP, hj, hg]
  exact ⟨fun _ => H _ fun _ _ x => x, fun x => absurd rfl x⟩
theorem pops_off {d j g : Nat} {want b : Bool} {op : Op} {ty : TypeId} {pos : String} {af : Array Edge} (hd : decide (d < n) = true) (hj : (ops[j]?).bind (·.dst) = some g) (hg : e g = .sv (.one (.val (.bool b)))) (hb : b ≠ want)
    (H : pops P W0 n ops N rest ⟨upd e d (.tup []), h⟩) :
    pops P W0 n ops N (⟨some d, op, ty, pos, af, some (j, want)⟩ :: rest) ⟨e, h⟩ := by
  refine ⟨_, .refl _ _, hd, ?_⟩
  simp only [wantP, hj, hg]
  exact ⟨fun x => absurd x hb, fun _ => H⟩
theorem pops_off0 {d j g : Nat} {want : Bool} {op : Op} {ty : TypeId} {pos : String} {af : Array Edge} (hd : decide (d < n) = true) (hj : (ops[j]?).bind (·.dst) = some g) (hg : e g = .tup [])
    (H : pops P W0 n ops N rest ⟨upd e d (.tup []), h⟩) :
    pops P W0 n ops N (⟨some d, op, ty, pos, af, some (j, want)⟩ :: rest) ⟨e, h⟩ := by
  refine ⟨_, .refl _ _, hd, ?_⟩
  simp only [wantP, hj, hg]
  exact H
theorem pops_mv {d : Nat} {x : Operand} {r : Slot} {ty : TypeId} {pos : String} {af : Array Edge} {op : Op} (hop : op = .move x ∨ op = .assign x) (hd : decide (d < n) = true) (hx : (⟨e, h⟩ : St).eval x = r) (H : pops P W0 n ops N rest ⟨upd e d r, h⟩) :
    pops P W0 n ops N (⟨some d, op, ty, pos, af, none⟩ :: rest) ⟨e, h⟩ := by
  subst hx
  refine pops_to hd fun M hM => ?_
  rcases hop with rfl | rfl <;> exact hM _ _ H
theorem pops_mvg {d j g : Nat} {want : Bool} {x : Operand} {r : Slot} {ty : TypeId} {pos : String} {af : Array Edge} {op : Op} (hop : op = .move x ∨ op = .assign x) (hd : decide (d < n) = true) (hj : (ops[j]?).bind (·.dst) = some g) (hg : e g = .sv (.one (.val (.bool want))))
    (hx : (⟨e, h⟩ : St).eval x = r) (H : pops P W0 n ops N rest ⟨upd e d r, h⟩) :
    pops P W0 n ops N (⟨some d, op, ty, pos, af, some (j, want)⟩ :: rest) ⟨e, h⟩ := by
  subst hx
  refine pops_do hd hj hg fun M hM => ?_
  rcases hop with rfl | rfl <;> exact hM _ _ H
theorem pops_done (H : N σ) : pops P W0 n ops N [] σ := ⟨_, .refl _ _, H⟩
theorem pwp_then {x y : Code} (H : ∀ M : St → Prop, (∀ σ, PWP P W0 n y K σ → M σ) → PWP P W0 n x (thenK M K) σ) : PWP P W0 n (.seq x y) K σ :=
  pwp_seq (H _ fun _ h => h)
theorem pwp_reg {id : Nat} {l : List Oper} (H : ∀ M : St → Prop, (∀ σ, K .normal σ → M σ) → pops P W0 n l.toArray M l σ) : PWP P W0 n (.region id l.toArray false) K σ :=
  pwp_region (H _ fun _ h => h)
end
def Same (h h' : Hp) : Prop := h'.blk = h.blk ∧ h.lim ≤ h'.lim
theorem Same.refl (h : Hp) : Same h h := ⟨rfl, Nat.le_refl _⟩
theorem Same.trans {a b c : Hp} (x : Same a b) (y : Same b c) : Same a c := ⟨y.1.trans x.1, Nat.le_trans x.2 y.2⟩
theorem Same.less {h h' : Hp} (x : Same h h') : Less h h' := ⟨fun id b hb => by rw [← x.1]; exact hb, x.2⟩
def anyAt : List Nat → (Nat → Slot) → Nat → Slot
  | [], e => e
  | d :: ds, e => anyAt ds (upd e d .any)
theorem anyAt_nil (e : Nat → Slot) : anyAt [] e = e := rfl
theorem anyAt_cons (d : Nat) (ds : List Nat) (e : Nat → Slot) : anyAt (d :: ds) e = anyAt ds (upd e d .any) := rfl
section
variable {P : Program} {W0 : World} {n : Nat} {ops : Array Oper} {N : St → Prop} {e e' : Nat → Slot} {h : Hp}
theorem wk_same {d : Nat} {r : Slot} (k : Wk W0 ⟨e, h⟩ ⟨e', h⟩) : Wk W0 ⟨upd e d r, h⟩ ⟨upd e' d r, h⟩ :=
  ⟨k.less, fun w m R i v hl => by
    simp only [upd] at hl ⊢
    split
    · rename_i hi; rw [if_pos hi] at hl; exact hl
    · rename_i hi; rw [if_neg hi] at hl; exact k.env w m R i v hl⟩
theorem wk_any {d : Nat} {r : Slot} (k : Wk W0 ⟨e, h⟩ ⟨e', h⟩) : Wk W0 ⟨upd e d r, h⟩ ⟨upd e' d .any, h⟩ :=
  ⟨k.less, fun w m R i v hl => by
    simp only [upd] at hl ⊢
    split
    · trivial
    · rename_i hi; rw [if_neg hi] at hl; exact k.env w m R i v hl⟩
theorem pops_app_eq (l2 : List Oper) : ∀ l1 : List Oper, pops P W0 n ops N (l1 ++ l2) = pops P W0 n ops (fun σ => pops P W0 n ops N l2 σ) l1
  | [] => funext fun σ => propext ⟨fun H => ⟨σ, .refl _ _, H⟩, fun ⟨_, k, H⟩ => pops_wk H k⟩
  | o :: l1 => by funext σ; simp only [List.cons_append, pops, pops_app_eq l2 l1]
theorem pops_cut (k : Nat) {l : List Oper} {σ : St} (H : pops P W0 n ops (fun σ => pops P W0 n ops N (l.drop k) σ) (l.take k) σ) : pops P W0 n ops N l σ := by
  rw [← pops_app_eq, List.take_append_drop] at H
  exact H
theorem pops_or (k g d : Nat) (ds : List Nat) {l : List Oper} {b v : Bool} (hg : e g = .sv (.one (.val (.bool b))))
    (Hon : b = false → ∀ J : St → Prop, (∀ σ h', Same h h' → Wk W0 σ ⟨upd (anyAt ds e) d (.sv (.one (.val (.bool v)))), h'⟩ → J σ) → pops P W0 n ops J (l.take k) ⟨e, h⟩)
    (Hoff : b = true → ∀ J : St → Prop, (∀ σ h', Same h h' → Wk W0 σ ⟨upd (anyAt ds e) d (.sv (.one (.val (.bool true)))), h'⟩ → J σ) → pops P W0 n ops J (l.take k) ⟨e, h⟩)
    (H : ∀ h', Same h h' → pops P W0 n ops N (l.drop k) ⟨upd (anyAt ds e) d (.sv (.one (.val (.bool (b || v))))), h'⟩) : pops P W0 n ops N l ⟨e, h⟩ := by
  refine pops_cut k ?_
  cases b with
  | false => exact Hon rfl _ fun σ h' s wk => pops_wk (H h' s) (by simpa using wk)
  | true => exact Hoff rfl _ fun σ h' s wk => pops_wk (H h' s) (by simpa using wk)
theorem pops_and (k g d : Nat) (ds : List Nat) {l : List Oper} {b v : Bool} (hg : e g = .sv (.one (.val (.bool b))))
    (Hon : b = true → ∀ J : St → Prop, (∀ σ h', Same h h' → Wk W0 σ ⟨upd (anyAt ds e) d (.sv (.one (.val (.bool v)))), h'⟩ → J σ) → pops P W0 n ops J (l.take k) ⟨e, h⟩)
    (Hoff : b = false → ∀ J : St → Prop, (∀ σ h', Same h h' → Wk W0 σ ⟨upd (anyAt ds e) d (.sv (.one (.val (.bool false)))), h'⟩ → J σ) → pops P W0 n ops J (l.take k) ⟨e, h⟩)
    (H : ∀ h', Same h h' → pops P W0 n ops N (l.drop k) ⟨upd (anyAt ds e) d (.sv (.one (.val (.bool (b && v))))), h'⟩) : pops P W0 n ops N l ⟨e, h⟩ := by
  refine pops_cut k ?_
  cases b with
  | true => exact Hon rfl _ fun σ h' s wk => pops_wk (H h' s) (by simpa using wk)
  | false => exact Hoff rfl _ fun σ h' s wk => pops_wk (H h' s) (by simpa using wk)
theorem pops_or0 (k g d : Nat) (ds : List Nat) {l : List Oper} {b v : Bool} (hg : e g = .sv (.one (.val (.bool b))))
    (Hon : b = false → ∀ J : St → Prop, (∀ σ, Wk W0 σ ⟨upd (anyAt ds e) d (.sv (.one (.val (.bool v)))), h⟩ → J σ) → pops P W0 n ops J (l.take k) ⟨e, h⟩)
    (Hoff : b = true → ∀ J : St → Prop, (∀ σ, Wk W0 σ ⟨upd (anyAt ds e) d (.sv (.one (.val (.bool true)))), h⟩ → J σ) → pops P W0 n ops J (l.take k) ⟨e, h⟩)
    (H : pops P W0 n ops N (l.drop k) ⟨upd (anyAt ds e) d (.sv (.one (.val (.bool (b || v))))), h⟩) : pops P W0 n ops N l ⟨e, h⟩ := by
  refine pops_cut k ?_
  cases b with
  | false => exact Hon rfl _ fun σ wk => pops_wk H (by simpa using wk)
  | true => exact Hoff rfl _ fun σ wk => pops_wk H (by simpa using wk)
theorem pops_and0 (k g d : Nat) (ds : List Nat) {l : List Oper} {b v : Bool} (hg : e g = .sv (.one (.val (.bool b))))
    (Hon : b = true → ∀ J : St → Prop, (∀ σ, Wk W0 σ ⟨upd (anyAt ds e) d (.sv (.one (.val (.bool v)))), h⟩ → J σ) → pops P W0 n ops J (l.take k) ⟨e, h⟩)
    (Hoff : b = false → ∀ J : St → Prop, (∀ σ, Wk W0 σ ⟨upd (anyAt ds e) d (.sv (.one (.val (.bool false)))), h⟩ → J σ) → pops P W0 n ops J (l.take k) ⟨e, h⟩)
    (H : pops P W0 n ops N (l.drop k) ⟨upd (anyAt ds e) d (.sv (.one (.val (.bool (b && v))))), h⟩) : pops P W0 n ops N l ⟨e, h⟩ := by
  refine pops_cut k ?_
  cases b with
  | true => exact Hon rfl _ fun σ wk => pops_wk H (by simpa using wk)
  | false => exact Hoff rfl _ fun σ wk => pops_wk H (by simpa using wk)
end
abbrev pstr (l : List UInt8) : PV := .val (.string ⟨l.toArray⟩)
abbrev pint (n : Int) : PV := .val (.int .i64 n)
abbrev pbool (b : Bool) : PV := .val (.bool b)
theorem wrap_i64 {x : Int} (h1 : -9223372036854775808 ≤ x) (h2 : x ≤ 9223372036854775807) : IntKind.i64.wrap x = x := by
  rw [IntKind.wrap_i64]; omega
section
variable {P : Program} {W0 : World} {n : Nat} {c : Code} {f : FuncId} {fn : Func} {h : Hp} {R : Slot → Hp → Prop} {a a1 a2 a3 a4 a5 : SV}
def none0 : Nat → Slot := fun _ => .tup []
theorem entry0 : entryEnv [] = none0 := by funext i; simp [entryEnv, none0]
theorem entryS (as : List SV) (x : SV) : entryEnv (as ++ [x]) = upd (entryEnv as) as.length (.sv x) := by
  funext i
  simp only [entryEnv, upd, List.getElem?_append]
  by_cases h1 : i < as.length
  · rw [if_pos h1, if_neg (by omega)]
  · rw [if_neg h1]
    by_cases h2 : i = as.length
    · rw [if_pos h2]; simp [h2]
    · rw [if_neg h2, List.getElem?_eq_none (by simp; omega), List.getElem?_eq_none (by omega)]
abbrev hpOk (h : Hp) : Prop := ∀ id b, h.blk id = some b → id < h.lim
theorem pcalls0 (hf : P.funcs[f]? = some fn) (hb : fn.body = some c) (hn : (fn.name == "runtime.NumGoroutine") = false) (hs : n = fn.ntmps)
    (H : hpOk h → PWP P W0 n c (bodyK W0 fn R) ⟨none0, h⟩) : PCalls P W0 f [] h R :=
  pcalls_body hf hb hn (by simpa using hs) (by rw [entry0]; exact H)
theorem pcalls1 (hf : P.funcs[f]? = some fn) (hb : fn.body = some c) (hn : (fn.name == "runtime.NumGoroutine") = false) (hs : n = 1 + (fn.ntmps - 1))
    (H : hpOk h → PWP P W0 n c (bodyK W0 fn R) ⟨upd none0 0 (.sv a), h⟩) : PCalls P W0 f [a] h R :=
  pcalls_body hf hb hn hs (by rw [show [a] = [] ++ [a] from rfl, entryS, entry0]; exact H)
theorem pcalls2 (hf : P.funcs[f]? = some fn) (hb : fn.body = some c) (hn : (fn.name == "runtime.NumGoroutine") = false) (hs : n = 2 + (fn.ntmps - 2))
    (H : hpOk h → PWP P W0 n c (bodyK W0 fn R) ⟨upd (upd none0 0 (.sv a)) 1 (.sv a1), h⟩) : PCalls P W0 f [a, a1] h R :=
  pcalls_body hf hb hn hs (by rw [show [a, a1] = ([] ++ [a]) ++ [a1] from rfl, entryS, entryS, entry0]; exact H)
theorem pcalls3 (hf : P.funcs[f]? = some fn) (hb : fn.body = some c) (hn : (fn.name == "runtime.NumGoroutine") = false) (hs : n = 3 + (fn.ntmps - 3))
    (H : hpOk h → PWP P W0 n c (bodyK W0 fn R) ⟨upd (upd (upd none0 0 (.sv a)) 1 (.sv a1)) 2 (.sv a2), h⟩) : PCalls P W0 f [a, a1, a2] h R :=
  pcalls_body hf hb hn hs (by rw [show [a, a1, a2] = (([] ++ [a]) ++ [a1]) ++ [a2] from rfl, entryS, entryS, entryS, entry0]; exact H)
end
theorem str_size (l : List UInt8) : (⟨l.toArray⟩ : ByteArray).size = l.length := by
  show l.toArray.size = l.length
  simp
theorem str_app (a b : List UInt8) : (⟨a.toArray⟩ : ByteArray) ++ ⟨b.toArray⟩ = ⟨(a ++ b).toArray⟩ := by
  apply ByteArray.ext
  simp [ByteArray.data_append]
theorem str_cut (l : List UInt8) (i j : Nat) : (⟨l.toArray⟩ : ByteArray).extract i j = ⟨((l.take j).drop i).toArray⟩ := by
  apply ByteArray.ext
  simp [List.drop_take]
theorem str_get (l : List UInt8) (i : Nat) : (⟨l.toArray⟩ : ByteArray)[i]? = l[i]? := by
  show (if h : i < (⟨l.toArray⟩ : ByteArray).size then some ((⟨l.toArray⟩ : ByteArray)[i]) else none) = _
  by_cases h : i < l.length
  · rw [dif_pos (by rw [str_size]; exact h), List.getElem?_eq_getElem h]
    rfl
  · rw [dif_neg (by rw [str_size]; exact h), List.getElem?_eq_none (by omega)]
theorem str_data (l : List UInt8) : (⟨l.toArray⟩ : ByteArray).data.toList = l := by simp
end Go.Pw
namespace Go.Pw
open Go Go.RowKit
section
variable {a a1 a2 : SV}
end
end Go.Pw
namespace Go.Pw
open Go Go.RowKit
theorem toList_loop (bs : ByteArray) : ∀ (n i : Nat) (r : List UInt8), bs.size - i = n → ByteArray.toList.loop bs i r = r.reverse ++ bs.data.toList.drop i := by
  intro n
  induction n with
  | zero =>
    intro i r hn
    rw [ByteArray.toList.loop]
    have hs : bs.data.toList.length = bs.size := by simp
    rw [if_neg (by omega), List.drop_eq_nil_of_le (by omega), List.append_nil]
  | succ n ih =>
    intro i r hn
    rw [ByteArray.toList.loop]
    have hi : i < bs.size := by omega
    rw [if_pos hi, ih (i + 1) _ (by omega)]
    have hs : bs.data.toList.length = bs.size := by simp
    rw [List.drop_eq_getElem_cons (l := bs.data.toList) (i := i) (by omega)]
    have hg : bs.get! i = bs.data.toList[i]'(by omega) := by
      show bs.data[i]! = _
      rw [getElem!_pos bs.data i hi, Array.getElem_toList]
    rw [hg]
    simp
theorem toList_data (bs : ByteArray) : bs.toList = bs.data.toList := by
  have := toList_loop bs bs.size 0 [] rfl
  simpa [ByteArray.toList] using this
theorem str_list (l : List UInt8) : (⟨l.toArray⟩ : ByteArray).toList = l := by rw [toList_data]
section
variable {P : Program} {W0 : World} {n : Nat} {K : Exit → St → Prop} {σ : St} {ops : Array Oper} {N : St → Prop} {o : Oper} {rest : List Oper} {e : Nat → Slot} {h : Hp}
theorem pops_split (g : Nat) {b : Bool} (hg : e g = .sv (.one (.val (.bool b)))) (H1 : b = true → pops P W0 n ops N rest ⟨e, h⟩) (H2 : b = false → pops P W0 n ops N rest ⟨e, h⟩) : pops P W0 n ops N rest ⟨e, h⟩ := by
  cases b with
  | true => exact H1 rfl
  | false => exact H2 rfl
end
def scopeK (K : Exit → St → Prop) : Exit → St → Prop
  | .goto _, _ => False
  | e, σ => K e σ
def PFun (P : Program) (W0 : World) (f : FuncId) (args : List SV) (r : Slot) : Prop := ∀ h, PCalls P W0 f args h (fun r' h' => r' = r ∧ Same h h')
theorem PFun.use {P : Program} {W0 : World} {f : FuncId} {args : List SV} {r : Slot} (H : PFun P W0 f args r) {h : Hp} {M : Slot → Hp → Prop} (hm : ∀ h', Same h h' → M r h') : PCalls P W0 f args h M :=
  (H h).mono fun _ h' ⟨e, s⟩ => e ▸ hm h' s
theorem endFun {W0 : World} {h h1 : Hp} {s r : Slot} (hs : Same h h1) (hr : s = r) : ∃ r' h', SlotWk W0 h1 s h' r' ∧ (r' = r ∧ Same h h') :=
  ⟨s, h1, .refl _ _ _, hr, hs⟩
end Go.Pw
namespace Go.Pw
open Go Go.RowKit
section
variable {P : Program} {W0 : World} {n : Nat} {ops : Array Oper} {md : Region.Mode} {h0 : Hp}
theorem svs_congr {σ σ' : St} : ∀ {xs : List Operand}, (∀ x ∈ xs, σ.eval x = σ'.eval x) → svs σ xs = svs σ' xs
  | [], _ => rfl
  | x :: xs, h => by
    have ih := svs_congr (xs := xs) fun y hy => h y (by simp [hy])
    simp only [svs, List.mapM_cons] at ih ⊢
    rw [h x (by simp), ih]
theorem onesOf_congr {σ σ' : St} : ∀ {xs : List Operand}, (∀ x ∈ xs, σ.eval x = σ'.eval x) → onesOf σ xs = onesOf σ' xs
  | [], _ => rfl
  | x :: xs, h => by
    have ih := onesOf_congr (xs := xs) fun y hy => h y (by simp [hy])
    simp only [onesOf, List.mapM_cons] at ih ⊢
    rw [h x (by simp), ih]
theorem map_congr' {σ σ' : St} {xs : List Operand} (h : ∀ x ∈ xs, σ.eval x = σ'.eval x) : xs.map σ.eval = xs.map σ'.eval := List.map_congr_left h
theorem pop_congr {σ σ' : St} {o : Oper} {N : Slot → Hp → Prop} (hp : σ.hp = σ'.hp) (h : ∀ x ∈ o.op.operands, σ.eval x = σ'.eval x) : pop P W0 σ o N = pop P W0 σ' o N := by
  obtain ⟨dst, op, type, pos, after, guard⟩ := o
  cases op <;> simp only [Op.operands] at h <;> simp only [pop, hp]
  case build t ps =>
    rw [List.map_congr_left (l := ps.toList) (f := fun x => (x.1, σ.eval x.2)) (g := fun x => (x.1, σ'.eval x.2)) fun p hm => by rw [h p.2 (by simp only [List.mem_toArray, List.mem_map]; exact ⟨p, hm, rfl⟩)]]
  case buildSlice t l ps =>
    rw [List.map_congr_left (l := ps.toList) (f := fun x => (x.1, σ.eval x.2)) (g := fun x => (x.1, σ'.eval x.2)) fun p hm => by rw [h p.2 (by simp only [List.mem_toArray, List.mem_map]; exact ⟨p, hm, rfl⟩)]]
  case makeFunc fn first captured =>
    rw [onesOf_congr (xs := captured.toList) fun x hx => h x (by simp only [Array.mem_append]; exact .inr (by simpa using hx))]
  case call c =>
    simp only [popCall]
    cases hc : c.callee with
    | value f =>
      have hf : σ.eval f = σ'.eval f := h f (by simp [Call.operands, hc])
      simp only [hf, svs_congr (xs := c.args.toList) fun x hx => h x (by simp only [Call.operands, Array.mem_append]; exact .inr (by simpa using hx)), hp]
    | invoke r m =>
      have hr : σ.eval r = σ'.eval r := h r (by simp [Call.operands, hc])
      simp only [hr, svs_congr (xs := c.args.toList) fun x hx => h x (by simp only [Call.operands, Array.mem_append]; exact .inr (by simpa using hx)), hp]
    | builtin b =>
      simp only [map_congr' (xs := c.args.toList) fun x hx => h x (by simp only [Call.operands, Array.mem_append]; exact .inr (by simpa using hx)), hp]
  case makeMap t r => cases r <;> rfl
  case binOp op t x y t2 =>
    cases y <;> first
      | (simp_all; done)
      | (rename_i v; cases v <;> (simp_all; done))
  case slice t x lo hi mx =>
    cases lo <;> cases hi <;> cases mx <;> simp_all
  all_goals (first | rfl | (simp_all; done))
def wantV (ops : Array Oper) (e : Nat → Slot) (o : Oper) : Option Bool :=
  match o.guard with
  | none => some true
  | some (j, want) =>
    match (ops[j]?).bind (·.dst) with
    | none => some false
    | some d =>
      match e d with
      | .sv (.one (.val (.bool b))) => some (b == want)
      | .tup [] => some false
      | _ => none
def putE (e : Nat → Slot) (d : Option Tmp) (r : Slot) : Nat → Slot :=
  match d with
  | some d => upd e d r
  | none => e
theorem wanted_of {we w : World} {he : Hp} {me m : Loc} {σ : St} {a : Act} {o : Oper} {b : Bool} (R : Rel W0 we he me n σ a w m) (h : wantV ops σ.env o = some b) : Region.wanted o (yielded ops a.tmps) = b := by
  unfold wantV at h
  split at h
  · rename_i hg
    obtain rfl := Option.some.inj h
    simp [Region.wanted, hg]
  · rename_i j want hg
    split at h
    · rename_i hn
      obtain rfl := Option.some.inj h
      simp [Region.wanted, hg, yielded, hn]
    · rename_i d hs
      have hy : ∀ v, a.tmps.getD d undef = v → yielded ops a.tmps j = (match v with | .bool b => some b | _ => none) := by
        intro v hv
        simp only [yielded, hs, Option.bind_some]
        rw [Array.getD_eq_getD_getElem?] at hv
        cases hc : a.tmps[d]? with
        | none => rw [hc] at hv; simp only [Option.getD_none] at hv; subst hv; rfl
        | some u =>
          rw [hc] at hv
          simp only [Option.getD_some] at hv
          subst hv
          cases u <;> rfl
      have he := R.env d
      split at h
      · rename_i b' e
        rw [e] at he
        have hb : a.tmps.getD d undef = .bool b' := by generalize a.tmps.getD d undef = q at he; cases he; rfl
        obtain rfl := Option.some.inj h
        simp only [Region.wanted, hg, hy _ hb]
        cases b' <;> cases want <;> rfl
      · rename_i e
        rw [e] at he
        have hb : a.tmps.getD d undef = .tuple #[] := by
          obtain ⟨vs, hv, hl, _⟩ := he
          rw [hv]
          rw [List.eq_nil_of_length_eq_zero hl]
        obtain rfl := Option.some.inj h
        simp [Region.wanted, hg, hy _ hb]
      · cases h
def YP (P : Program) (W0 : World) (n : Nat) (ops : Array Oper) (h0 : Hp) (o : Oper) (r : Slot) (e : Nat → Slot) : Prop :=
  dstOk n o.dst = true ∧ ((wantV ops e o = some true ∧ ∀ h, Same h0 h → pop P W0 ⟨e, h⟩ o (fun r' h' => ∃ h2, SlotWk W0 h' r' h2 r ∧ Same h h2)) ∨ (wantV ops e o = some false ∧ r = .tup []))
def qP (P : Program) (W0 : World) (n : Nat) (ops : Array Oper) (h0 : Hp) (i : Nat) (K : (Nat → Slot) → Prop) (e : Nat → Slot) : Prop :=
  ∃ o r, ops[i]? = some o ∧ YP P W0 n ops h0 o r e ∧ K (putE e o.dst r)
theorem qP_mono {i : Nat} {K K' : (Nat → Slot) → Prop} {e : Nat → Slot} (h : ∀ e, K e → K' e) (H : qP P W0 n ops h0 i K e) : qP P W0 n ops h0 i K' e :=
  let ⟨o, r, h1, h2, h3⟩ := H
  ⟨o, r, h1, h2, h _ h3⟩
def anyP (P : Program) (W0 : World) (n : Nat) (md : Region.Mode) (ops : Array Oper) (h0 : Hp) (N : Nat) (L : Array Bool → (Nat → Slot) → Prop) : Nat → Array Bool → (Nat → Slot) → Prop
  | 0, listed, e => L listed e
  | f + 1, listed, e => Region.ready md ops listed ≠ [] ∧ ∀ i ∈ Region.ready md ops listed, i < N ∧ qP P W0 n ops h0 i (anyP P W0 n md ops h0 N L f (listed.setIfInBounds i true)) e
def RelS (W0 we : World) (he : Hp) (me : Loc) (n : Nat) (h0 : Hp) (e : Nat → Slot) (a : Act) (w : World) : Prop :=
  ∃ h m, Same h0 h ∧ Rel W0 we he me n ⟨e, h⟩ a w m
theorem wpOp_of_qP {we : World} {he : Hp} {me : Loc} {i : Nat} {K : (Nat → Slot) → Prop} {K' : Act → World → Prop} {Q : Exit → Act → World → Prop} {e : Nat → Slot} {a : Act} {w : World}
    (H : qP P W0 n ops h0 i K e) (R : RelS W0 we he me n h0 e a w) (hk : ∀ e a w, K e → RelS W0 we he me n h0 e a w → K' a w) : wpOp P ops Q i K' a w := by
  obtain ⟨o, r, ho, ⟨hd, hy⟩, hK⟩ := H
  obtain ⟨h, m, hs, R⟩ := R
  unfold wpOp
  simp only [ho]
  rcases hy with ⟨hw, hp⟩ | ⟨hw, rfl⟩
  · rw [if_pos (wanted_of R hw)]
    refine .inl ((pop_ok R (hp h hs)).wp ?_)
    rintro v w' ⟨r', h1', m', ⟨h', wk, hs'⟩, h2, h3, h4⟩
    have R' := R.step (h3.less wk.less) (h4.trans wk.less.ext) (wk.slot w' m' h3 v h2) hd
    refine hk _ _ _ hK ⟨h', m', hs.trans hs', ?_⟩
    cases hdd : o.dst <;> rw [hdd] at R' <;> exact R'
  · rw [if_neg (by simp [wanted_of R hw])]
    have R' := R.step (h' := h) (d := o.dst) R.hr (Ext.refl _ _ _) (LR.undef _ _ _) hd
    refine hk _ _ _ hK ⟨h, m, hs, ?_⟩
    cases hdd : o.dst <;> rw [hdd] at R' <;> exact R'
theorem any_wp {we : World} {he : Hp} {me : Loc} {N g : Nat} {L : Array Bool → (Nat → Slot) → Prop} {Q : Exit → Act → World → Prop}
    (hL : ∀ listed e a w, L listed e → RelS W0 we he me n h0 e a w → wpAny P md ops Q g listed a w) :
    ∀ (f : Nat) (listed : Array Bool) (e : Nat → Slot) (a : Act) (w : World), anyP P W0 n md ops h0 N L f listed e → RelS W0 we he me n h0 e a w → wpAny P md ops Q (f + g) listed a w
  | 0, listed, e, a, w, H, R => by rw [Nat.zero_add]; exact hL _ _ _ _ H R
  | f + 1, listed, e, a, w, H, R => by
    rw [show f + 1 + g = (f + g) + 1 by omega]
    exact ⟨fun h0 => absurd h0 H.1, fun i hi => wpOp_of_qP (H.2 i hi).2 R fun e a w h r => any_wp hL f _ e a w h r⟩
theorem putE_comm (e : Nat → Slot) {x y : Option Tmp} (r s : Slot) (h : ∀ d, x = some d → y ≠ some d) : putE (putE e x r) y s = putE (putE e y s) x r := by
  cases x with
  | none => rfl
  | some d =>
    cases y with
    | none => rfl
    | some c =>
      have hne : d ≠ c := fun he => h d rfl (he ▸ rfl)
      funext i
      simp only [putE, upd]
      by_cases h1 : i = c
      · subst h1
        rw [if_pos rfl, if_neg (fun he => hne he.symm), if_pos rfl]
      · rw [if_neg h1, if_neg h1]
theorem eval_putE {e : Nat → Slot} {h : Hp} {d : Option Tmp} {r : Slot} {x : Operand} (hx : ∀ t, d = some t → x ≠ .tmp t) : (⟨putE e d r, h⟩ : St).eval x = (⟨e, h⟩ : St).eval x := by
  cases d with
  | none => rfl
  | some d =>
    cases x with
    | tmp t =>
      have hne : t ≠ d := fun he => hx d rfl (he ▸ rfl)
      simp only [St.eval, putE, upd, if_neg hne]
    | _ => rfl
theorem wantV_putE {e : Nat → Slot} {d : Option Tmp} {r : Slot} {o : Oper} (h : ∀ t, d = some t → t ∉ o.looksAt ops) : wantV ops (putE e d r) o = wantV ops e o := by
  cases d with
  | none => rfl
  | some d =>
    unfold wantV
    cases hg : o.guard with
    | none => rfl
    | some gw =>
      obtain ⟨g, want⟩ := gw
      simp only
      cases ht : (ops[g]?).bind (·.dst) with
      | none => rfl
      | some t =>
        have hne : t ≠ d := fun e => h d rfl (by subst e; simp [Oper.looksAt, hg, ht])
        simp only [putE, upd, if_neg hne]
theorem YP_putE {e : Nat → Slot} {d : Option Tmp} {r s : Slot} {o : Oper} (h : ∀ t, d = some t → t ∉ o.looksAt ops) : YP P W0 n ops h0 o s (putE e d r) ↔ YP P W0 n ops h0 o s e := by
  unfold YP
  rw [wantV_putE h]
  have : ∀ hh N, pop P W0 ⟨putE e d r, hh⟩ o N = pop P W0 ⟨e, hh⟩ o N := fun hh N => pop_congr rfl fun x hx => eval_putE fun t hd hxt => h t hd (by
    subst hxt
    exact List.mem_append_left _ (List.mem_filterMap.2 ⟨.tmp t, by simpa using hx, rfl⟩))
  simp only [this]
theorem qP_put {j : Nat} {oi oj : Oper} {v : Slot} (hj : ops[j]? = some oj) (hap : oi.apart ops oj = true) {K : (Nat → Slot) → Prop} {e : Nat → Slot}
    (hy : YP P W0 n ops h0 oi v e) (h : qP P W0 n ops h0 j K (putE e oi.dst v)) : qP P W0 n ops h0 j (fun e' => YP P W0 n ops h0 oi v e' ∧ K (putE e' oi.dst v)) e := by
  obtain ⟨h1, h2, h3⟩ := Oper.apart_spec hap
  obtain ⟨o, r, ho, hyo, hK⟩ := h
  obtain rfl : o = oj := Option.some.inj (ho.symm.trans hj)
  exact ⟨o, r, ho, (YP_putE h1).1 hyo, (YP_putE h3).2 hy, by rw [← putE_comm e v r h2]; exact hK⟩
theorem anyP_first {N i : Nat} {oi : Oper} {v : Slot} {L : Array Bool → (Nat → Slot) → Prop} (hi : ops[i]? = some oi) (hin : i < N)
    (hwait : ∀ listed : Array Bool, HeadInv md ops N listed → ∀ i, i < N → listed.getD i true = false → ∀ t, N ≤ t → t ∉ Region.ready md ops listed)
    (hdone : ∀ listed a, L listed a → ∀ j ∈ Region.ready md ops listed, N ≤ j) :
    ∀ (f : Nat) (listed : Array Bool) (e : Nat → Slot), HeadInv md ops N listed →
      (∀ j oj, ops[j]? = some oj → j ≠ i → listed.getD j true = false → (∀ e ∈ oj.after, Region.binds md e = true → e.on ≠ i) → oi.apart ops oj = true) →
      i ∈ Region.ready md ops listed → YP P W0 n ops h0 oi v e →
      anyP P W0 n md ops h0 N L f (listed.setIfInBounds i true) (putE e oi.dst v) → anyP P W0 n md ops h0 N L (f + 1) listed e := by
  intro f
  induction f with
  | zero =>
    intro listed e inv _ hr hy H
    have hun := (mem_ready.1 hr).1
    refine ⟨fun h => (by rw [h] at hr; cases hr), fun j hj => ?_⟩
    have hjn : j < N := by
      rcases Nat.lt_or_ge j N with h | h
      · exact h
      · exact absurd hj (hwait _ inv i hin hun j h)
    refine ⟨hjn, ?_⟩
    by_cases hji : j = i
    · subst hji; exact ⟨oi, v, hi, hy, H⟩
    · have := hdone _ _ H j (ready_mono hj hji)
      omega
  | succ f ih =>
    intro listed e inv hfree hr hy H
    have hun := (mem_ready.1 hr).1
    refine ⟨fun h => (by rw [h] at hr; cases hr), fun j hj => ?_⟩
    have hjn : j < N := by
      rcases Nat.lt_or_ge j N with h | h
      · exact h
      · exact absurd hj (hwait _ inv i hin hun j h)
    refine ⟨hjn, ?_⟩
    by_cases hji : j = i
    · subst hji; exact ⟨oi, v, hi, hy, H⟩
    · have h1 := (H.2 j (ready_mono hj hji)).2
      obtain ⟨hjun, oj, hoj, hall⟩ := mem_ready.1 hj
      have hnot : ∀ e ∈ oj.after, Region.binds md e = true → e.on ≠ i := fun e he hb heq => by
        have h1 := hall e he hb
        rw [heq, getD_both hun] at h1
        cases h1
      have h2 := qP_put hoj (hfree j oj hoj hji hjun hnot) hy h1
      have hfree' : ∀ k ok, ops[k]? = some ok → k ≠ i → (listed.setIfInBounds j true).getD k true = false →
          (∀ e ∈ ok.after, Region.binds md e = true → e.on ≠ i) → oi.apart ops ok = true := fun k ok hk hki hun hno => by
        refine hfree k ok hk hki ?_ hno
        by_cases hjk : j = k
        · subst hjk; exact hjun
        · rw [getD_set_ne true hjk] at hun; exact hun
      refine qP_mono (fun a' h3 => ih (listed.setIfInBounds j true) a' (inv.set hj hjn) hfree' (ready_mono hr (Ne.symm hji)) h3.1 ?_) h2
      rw [Array.setIfInBounds_comm _ _ hji]
      exact h3.2
def lexP (P : Program) (W0 : World) (n : Nat) (ops : Array Oper) (h0 : Hp) (K : (Nat → Slot) → Prop) : List Oper → (Nat → Slot) → Prop
  | [], e => K e
  | o :: rest, e => ∃ r, YP P W0 n ops h0 o r e ∧ lexP P W0 n ops h0 K rest (putE e o.dst r)
theorem anyP_lex {N g : Nat} {K : (Nat → Slot) → Prop}
    (hwait : ∀ listed : Array Bool, HeadInv md ops N listed → ∀ i, i < N → listed.getD i true = false → ∀ t, N ≤ t → t ∉ Region.ready md ops listed) :
    ∀ (l : List Oper) (k : Nat) (listed : Array Bool) (e : Nat → Slot), (∀ j, j < l.length → l[j]? = ops[k + j]?) → k + l.length = N → HeadInv md ops N listed →
    Region.lexHead md ops g l.length k listed = true → lexP P W0 n ops h0 K l e →
    anyP P W0 n md ops h0 N (fun listed' e' => Region.seqB md ops g N listed' = true ∧ K e') l.length listed e
  | [], k, listed, e, _, hk, _, hB, h => by
    have : k = N := by simpa using hk
    subst this
    exact ⟨by simpa [Region.lexHead] using hB, h⟩
  | o :: l, k, listed, e, hl, hk, inv, hB, h => by
    have ho : ops[k]? = some o := by simpa using (hl 0 (by simp)).symm
    simp only [List.length_cons, Region.lexHead, Bool.and_eq_true] at hB
    obtain ⟨⟨hr, hf⟩, hB'⟩ := hB
    have hkn : k < N := by simp only [List.length_cons] at hk; omega
    have hr' : k ∈ Region.ready md ops listed := by simpa using hr
    obtain ⟨r, hy, hK⟩ := h
    exact anyP_first ho hkn hwait (fun listed' a' hL => seqB_ready hL.1) l.length listed e inv (Region.free_spec ho hf) hr' hy
      (anyP_lex hwait l (k + 1) _ _ (fun j hj => by have := hl (j + 1) (by simp; omega); simpa [Nat.add_assoc, Nat.add_comm 1 j] using this) (by simp only [List.length_cons] at hk; omega) (inv.set hr' hkn) hB' hK)
def drawB (ops : Array Oper) (N : Nat) : Bool :=
  decide (N ≤ ops.size) && (decide (N = ops.size) || (Region.sinkB .any ops N && Region.chainB .any ops N)) && Region.lexHead .any ops (ops.size - N) N 0 (Array.replicate ops.size false)
theorem pwp_draw {K : Exit → St → Prop} {e : Nat → Slot} {id : Nat} {l : List Oper} (N : Nat) (hm : P.follows .mixedOrders = true) (hB : drawB l.toArray N = true)
    (H : lexP P W0 n l.toArray h0 (fun e' => ∀ h', Same h0 h' → pops P W0 n l.toArray (K .normal) (l.drop N) ⟨e', h'⟩) (l.take N) e) : PWP P W0 n (.region id l.toArray true) K ⟨e, h0⟩ := by
  intro we he me a w m R
  simp only [drawB, Bool.and_eq_true, Bool.or_eq_true, decide_eq_true_eq] at hB
  obtain ⟨⟨hn, hsc⟩, hlex⟩ := hB
  have hn' : N ≤ l.length := by simpa using hn
  have htl : (l.take N).length = N := by simp; omega
  have hdl : (l.drop N).length = l.toArray.size - N := by simp
  have hwait : ∀ listed : Array Bool, HeadInv .any l.toArray N listed → ∀ i, i < N → listed.getD i true = false → ∀ t, N ≤ t → t ∉ Region.ready .any l.toArray listed := by
    intro listed inv i hi hun t ht
    rcases hsc with h | ⟨hs, hc⟩
    · intro hr
      obtain ⟨_, ot, hot, _⟩ := mem_ready.1 hr
      have := (Array.getElem?_eq_some_iff.1 hot).1
      omega
    · rcases Nat.lt_or_ge N l.toArray.size with h | h
      · exact tail_waits hs hc h inv _ i rfl hi hun t ht
      · intro hr
        obtain ⟨_, ot, hot, _⟩ := mem_ready.1 hr
        have := (Array.getElem?_eq_some_iff.1 hot).1
        omega
  have inv0 : HeadInv .any l.toArray N (Array.replicate l.toArray.size false) :=
    ⟨by simp, fun j oj _ hl => (by rw [getD_replicate_false] at hl; cases hl), fun t _ ht => getD_in (by simpa using ht) (getD_replicate_false _ _)⟩
  have A := anyP_lex (md := .any) (g := l.toArray.size - N) hwait (l.take N) 0 _ e (fun j hj => by
    have hj' : j < N := by rw [htl] at hj; exact hj
    simp [hj']) (by simpa using htl) inv0 (by rw [htl]; exact hlex) H
  have R0 : RelS W0 we he me n h0 e a { w with drawn := w.drawn + 1 } := by
    have b : Below w.heap.size w { w with drawn := w.drawn + 1 } := ⟨⟨rfl, rfl, rfl, Nat.le_refl _, fun _ _ => rfl⟩, fun _ => Nat.le_succ _⟩
    exact ⟨h0, m, .refl _, R.hr.grow b, R.ext.trans (Ext.grow b), R.size, R.defers, fun i => (R.env i).ext (Ext.grow b)⟩
  refine wp_region_any hm ?_
  have := any_wp (md := .any) (g := l.toArray.size - N) (Q := fun e a' w' => ∃ σ' m', K e σ' ∧ Rel W0 we he me n σ' a' w' m') (fun listed e' a' w' hL hR => by
    obtain ⟨hseq, hL⟩ := hL
    obtain ⟨h', m', hs, R'⟩ := hR
    have := wpAny_of_seq (md := .any) (Q' := fun e a' w' => ∃ σ' m', K e σ' ∧ Rel W0 we he me n σ' a' w' m') (l.drop N) N listed a' w' (fun j => by simp [List.getElem?_drop]) (by rw [hdl]; exact hseq)
      (pops_ok (l.drop N) _ a' w' m' R' (hL h' hs) fun σ a w m hn hr => ⟨σ, m, hn, hr⟩)
    rwa [hdl] at this) _ _ _ _ _ A R0
  rw [htl, show N + (l.toArray.size - N) = l.toArray.size by omega] at this
  exact this
theorem lex_to {K : (Nat → Slot) → Prop} {rest : List Oper} {e : Nat → Slot} {d : Nat} {op : Op} {ty : TypeId} {pos : String} {af : Array Edge} {r : Slot} (hd : decide (d < n) = true)
    (H : ∀ h, Same h0 h → ∀ M : Slot → Hp → Prop, (∀ h', Same h h' → M r h') → pop P W0 ⟨e, h⟩ ⟨some d, op, ty, pos, af, none⟩ M) (H2 : lexP P W0 n ops h0 K rest (upd e d r)) :
    lexP P W0 n ops h0 K (⟨some d, op, ty, pos, af, none⟩ :: rest) e :=
  ⟨r, ⟨hd, .inl ⟨rfl, fun h s => H h s _ fun _h' s' => ⟨_, .refl _ _ _, s'⟩⟩⟩, H2⟩
theorem lex_do {K : (Nat → Slot) → Prop} {rest : List Oper} {e : Nat → Slot} {d j g : Nat} {want : Bool} {op : Op} {ty : TypeId} {pos : String} {af : Array Edge} {r : Slot} (hd : decide (d < n) = true)
    (hj : (ops[j]?).bind (·.dst) = some g) (hg : e g = .sv (.one (.val (.bool want))))
    (H : ∀ h, Same h0 h → ∀ M : Slot → Hp → Prop, (∀ h', Same h h' → M r h') → pop P W0 ⟨e, h⟩ ⟨some d, op, ty, pos, af, some (j, want)⟩ M) (H2 : lexP P W0 n ops h0 K rest (upd e d r)) :
    lexP P W0 n ops h0 K (⟨some d, op, ty, pos, af, some (j, want)⟩ :: rest) e :=
  ⟨r, ⟨hd, .inl ⟨by simp [wantV, hj, hg], fun h s => H h s _ fun h' s' => ⟨_, .refl _ _ _, s'⟩⟩⟩, H2⟩
theorem lex_off {K : (Nat → Slot) → Prop} {rest : List Oper} {e : Nat → Slot} {d j g : Nat} {want b : Bool} {op : Op} {ty : TypeId} {pos : String} {af : Array Edge} (hd : decide (d < n) = true)
    (hj : (ops[j]?).bind (·.dst) = some g) (hg : e g = .sv (.one (.val (.bool b)))) (hb : b ≠ want) (H2 : lexP P W0 n ops h0 K rest (upd e d (.tup []))) :
    lexP P W0 n ops h0 K (⟨some d, op, ty, pos, af, some (j, want)⟩ :: rest) e :=
  ⟨.tup [], ⟨hd, .inr ⟨by simp [wantV, hj, hg, hb], rfl⟩⟩, H2⟩
theorem lex_split {K : (Nat → Slot) → Prop} {l : List Oper} {e : Nat → Slot} (g : Nat) {b : Bool} (hg : e g = .sv (.one (.val (.bool b)))) (H1 : b = true → lexP P W0 n ops h0 K l e) (H2 : b = false → lexP P W0 n ops h0 K l e) : lexP P W0 n ops h0 K l e := by
  cases b with
  | true => exact H1 rfl
  | false => exact H2 rfl
theorem lex_done {K : (Nat → Slot) → Prop} {e : Nat → Slot} (H : K e) : lexP P W0 n ops h0 K [] e := H
theorem pwp_dreg {K : Exit → St → Prop} {e : Nat → Slot} {id : Nat} {l : List Oper} (N : Nat) (hm : P.follows .mixedOrders = true) (hB : drawB l.toArray N = true)
    (H : ∀ M : St → Prop, (∀ σ, K .normal σ → M σ) → lexP P W0 n l.toArray h0 (fun e' => ∀ h', Same h0 h' → pops P W0 n l.toArray M (l.drop N) ⟨e', h'⟩) (l.take N) e) : PWP P W0 n (.region id l.toArray true) K ⟨e, h0⟩ :=
  pwp_draw N hm hB (H _ fun _ h => h)
end
end Go.Pw
namespace Go.Pw
open Go Go.RowKit
def Keeps (h h' : Hp) : Prop := (∀ j b, h.blk j = some b → h'.blk j = some b) ∧ h.lim ≤ h'.lim
theorem Keeps.refl (h : Hp) : Keeps h h := ⟨fun _ _ x => x, Nat.le_refl _⟩
theorem Keeps.trans {a b c : Hp} (x : Keeps a b) (y : Keeps b c) : Keeps a c := ⟨fun j bl h => y.1 j bl (x.1 j bl h), Nat.le_trans x.2 y.2⟩
theorem Same.keeps {a b : Hp} (x : Same a b) : Keeps a b := ⟨fun j bl h => by rw [x.1]; exact h, x.2⟩
theorem Keeps.new {h : Hp} {id : Nat} {b : Blk} (hb : hpOk h) (hid : h.lim ≤ id) : Keeps h (h.new id b) :=
  ⟨fun j bl hj => by
    have := hb j bl hj
    simp only [Hp.new]
    rw [if_neg (by omega)]
    exact hj, by simp only [Hp.new]; omega⟩
theorem Keeps.set {h h' : Hp} {id : Nat} {b : Blk} (k : Keeps h h') (hb : hpOk h) (hid : h.lim ≤ id) : Keeps h (h'.set id b) :=
  ⟨fun j bl hj => by
    have := hb j bl hj
    simp only [Hp.set]
    rw [if_neg (by omega)]
    exact k.1 j bl hj, k.2⟩
def Hp.back (h h1 : Hp) : Hp := ⟨h.blk, h1.lim⟩
theorem endKeeps {W0 : World} {h h1 : Hp} {s r : Slot} (hs : Keeps h h1) (hr : s = r) (hclosed : ∀ w m v, LR w h1 m s v → LR w (h.back h1) m s v := by intro _ _ _ x; exact x) :
    ∃ r' h', SlotWk W0 h1 s h' r' ∧ (r' = r ∧ Same h h') :=
  ⟨s, h.back h1, ⟨⟨fun id b hb => hs.1 id b hb, Nat.le_refl _⟩, fun w m _ v x => hclosed w m v x⟩, hr, rfl, hs.2⟩
theorem endKeeps1 {W0 : World} {h h1 : Hp} {s : Slot} {v : Value} (hs : Keeps h h1) (hr : s = .sv (.one (.val v))) :
    ∃ r' h', SlotWk W0 h1 s h' r' ∧ (r' = .sv (.one (.val v)) ∧ Same h h') :=
  endKeeps hs hr (by
    subst hr
    intro w m u x
    cases x with
    | val _ h1 => exact .val _ h1)
theorem blk_new (h : Hp) (id : Nat) (b : Blk) : (h.new id b).blk id = some b := by simp [Hp.new]
theorem blk_set (h : Hp) (id : Nat) (b : Blk) : (h.set id b).blk id = some b := by simp [Hp.set]
end Go.Pw
namespace Go.Pw
open Go Go.RowKit
section
variable {P : Program} {W0 : World} {f : FuncId}
def Has (P : Program) (f : FuncId) : Prop := ∃ fn, P.funcs[f]? = some fn ∧ fn.body.isSome = true ∧ (fn.name == "runtime.NumGoroutine") = false
theorem svr_vals {w : World} {h : Hp} {m : Loc} : ∀ {vals vs : List Value}, vs.length = (vals.map fun v => SV.one (.val v)).length →
    (∀ (j : Nat) (s : SV) (v : Value), (vals.map fun v => SV.one (.val v))[j]? = some s → vs[j]? = some v → SVR w h m s v) → vs = vals := by
  intro vals vs hl hv
  apply List.ext_getElem?
  intro j
  rcases Nat.lt_or_ge j vals.length with hj | hj
  · have h2 : j < vs.length := by simp at hl; omega
    have := hv j (.one (.val vals[j])) vs[j] (by simp [hj]) (List.getElem?_eq_getElem h2)
    rw [List.getElem?_eq_getElem h2, List.getElem?_eq_getElem hj]
    generalize vs[j] = q at this ⊢
    cases this
    rfl
  · rw [List.getElem?_eq_none hj, List.getElem?_eq_none (by simp at hl; omega)]
theorem pfun_below (hf : Has P f) {vals : List Value} {r : Value} (hr : r.oneCell' = true) (H : ∀ w, Below W0.heap.size W0 w → Calls P f vals.toArray w fun e w' => e = .returned r ∧ Below w.heap.size w w') :
    PFun P W0 f (vals.map fun v => .one (.val v)) (.sv (.one (.val r))) := by
  refine fun h => ⟨hf, fun w m vs R hl hv => ?_⟩
  obtain rfl := svr_vals hl hv
  refine (H w R.below).mono ?_
  rintro e w' ⟨rfl, hb⟩
  exact ⟨r, _, h, m, rfl, ⟨rfl, .refl _⟩, .val _ hr, R.grow hb, Ext.grow hb⟩
theorem Below.refl' (w : World) : Below w.heap.size w w := Below.refl _ w
theorem pfun_same (hf : Has P f) {vals : List Value} {r : Value} (hr : r.oneCell' = true) (H : ∀ w, Below W0.heap.size W0 w → Calls P f vals.toArray w fun e w' => e = .returned r ∧ w' = w) :
    PFun P W0 f (vals.map fun v => .one (.val v)) (.sv (.one (.val r))) :=
  pfun_below hf hr fun w hb => (H w hb).mono fun _ _ ⟨a, b⟩ => ⟨a, b ▸ Below.refl' w⟩
theorem cell_below {w : World} (hb : Below W0.heap.size W0 w) {a : Addr} {v : Value} (h : W0.cell? a = some v) : w.cell? a = some v := by
  rw [hb.cell (block_lt_of_cell h)]; exact h
abbrev pstrs (xs : List (List UInt8)) : List (List PV) := xs.map fun x => [pstr x]
theorem alloc_heap (w : World) (o : Obj) : (w.alloc o).heap = w.heap.push o := rfl
theorem lr_newstrs {w : World} {h : Hp} {m : Loc} (R : HR W0 w h m) (xs : List (List UInt8)) (ty : TypeId) {n : Nat} (hn : xs.length = n) :
    LR (w.alloc (.cells (xs.map fun x => Value.string ⟨x.toArray⟩).toArray ty)) h m (.sv (.one (.ro true 1 (pstrs xs)))) (.slice (some ⟨w.heap.size, 0, none⟩) n n) := by
  subst hn
  refine .ro true 1 (pstrs xs) w.heap.size 0 xs.length xs.length (fun i _ => .string ⟨(xs.getD i []).toArray⟩) (by simp) (fun _ => rfl) (Nat.le_refl _) (by rw [alloc_heap]; simp) ?_ ?_ ?_ ?_
  · intro id b hb e
    have := (R.live id b hb).lt
    omega
  · intro i es hi
    simp only [List.getElem?_map] at hi
    obtain ⟨x, _, rfl⟩ := Option.map_eq_some_iff.1 hi
    rfl
  · intro i es j p hi hj
    simp only [List.getElem?_map] at hi
    obtain ⟨x, hx, rfl⟩ := Option.map_eq_some_iff.1 hi
    cases j with
    | zero =>
      have hlt := (List.getElem?_eq_some_iff.1 hx).1
      have he := (List.getElem?_eq_some_iff.1 hx).2
      simp [World.cell?, alloc_heap, hx]
    | succ j => simp at hj
  · intro i es j p hi hj
    simp only [List.getElem?_map] at hi
    obtain ⟨x, hx, rfl⟩ := Option.map_eq_some_iff.1 hi
    cases j with
    | zero =>
      simp only [List.getElem?_cons_zero, Option.some.injEq] at hj
      subst hj
      have : xs.getD i [] = x := by simp [List.getD, hx]
      rw [this]
      exact .val _ rfl
    | succ j => simp at hj
theorem below_alloc (w : World) (o : Obj) : Below w.heap.size w (w.alloc o) :=
  (Below.refl _ w).alloc (Nat.le_refl _) o
theorem pfun_newstrs (hf : Has P f) {vals : List Value} {xs : List (List UInt8)} {n : Nat} {ty : TypeId} (hn : xs.length = n)
    (H : ∀ w, Below W0.heap.size W0 w → Calls P f vals.toArray w fun e w' => e = .returned (.slice (some ⟨w.heap.size, 0, none⟩) n n) ∧ w' = w.alloc (.cells (xs.map fun x => Value.string ⟨x.toArray⟩).toArray ty)) :
    PFun P W0 f (vals.map fun v => .one (.val v)) (.sv (.one (.ro true 1 (pstrs xs)))) := by
  refine fun h => ⟨hf, fun w m vs R hl hv => ?_⟩
  obtain rfl := svr_vals hl hv
  refine (H w R.below).mono ?_
  rintro e w' ⟨rfl, rfl⟩
  exact ⟨_, _, h, m, rfl, ⟨rfl, .refl _⟩, lr_newstrs R xs ty hn, R.grow (below_alloc w _), Ext.grow (below_alloc w _)⟩
theorem vr_strs {w : World} {h : Hp} {m : Loc} {full : Bool} {xs : List (List UInt8)} {v : Value} (H : VR w h m (.ro full 1 (pstrs xs)) v) :
    (xs = [] ∧ ∃ a c, v = .slice a 0 c) ∨ ∃ g off c, v = .slice (some ⟨g, off, none⟩) xs.length c ∧ g < w.heap.size ∧ xs.length ≤ c ∧ ∀ (j : Nat) x, xs[j]? = some x → w.cell? ⟨g, off + j, none⟩ = some (.string ⟨x.toArray⟩) := by
  generalize hp : pstrs xs = ps at H
  cases H with
  | ro0 _ _ a c hc =>
    have : xs = [] := by simpa [pstrs] using hp
    exact .inl ⟨this, a, c, rfl⟩
  | ro _ _ _ g off c n vs hn hc hnc hg hav hlen hcell hvs =>
    subst hp
    obtain rfl : xs.length = n := by simpa using hn
    refine .inr ⟨g, off, c, rfl, hg, hnc, fun j x hx => ?_⟩
    have h1 : (pstrs xs)[j]? = some [pstr x] := by simp [pstrs, hx]
    have h2 := hcell j _ 0 _ h1 rfl
    have h3 := hvs j _ 0 _ h1 rfl
    generalize vs j 0 = q at h2 h3
    cases h3
    simpa using h2
end
end Go.Pw
namespace Go.Pw
open Go Go.RowKit
def spl (c : UInt8) : List UInt8 → List (List UInt8)
  | [] => [[]]
  | b :: l => if b = c then [] :: spl c l else ((b :: (spl c l).headD []) :: (spl c l).tail)
theorem spl_none {c : UInt8} {l : List UInt8} (h : c ∉ l) : spl c l = [l] := by
  induction l with
  | nil => rfl
  | cons b l ih =>
    have hb : b ≠ c := fun e => h (by simp [e])
    have hl : c ∉ l := fun e => h (by simp [e])
    simp [spl, hb, ih hl]
theorem index1_cons (b c : UInt8) (l : List UInt8) : Lib.index (b :: l) [c] = if b = c then 0 else if Lib.index l [c] = -1 then -1 else Lib.index l [c] + 1 := by
  rw [Lib.index]
  by_cases h : b = c
  · simp [h]
  · have : ¬ c = b := fun e => h e.symm
    have hp : ([c] : List UInt8).isPrefixOf (b :: l) = false := by simp [List.isPrefixOf, this]
    simp only [hp, h, if_false, Bool.false_eq_true, beq_iff_eq]
theorem splitK_spl (c : UInt8) : ∀ (l : List UInt8) (k : Nat), l.count c ≤ k → Lib.splitK [c] 0 k l = spl c l
  | [], k, _ => by cases k <;> rfl
  | b :: l, 0, h => by
    have : c ∉ b :: l := fun e => by have := List.count_pos_iff.2 e; omega
    rw [spl_none this]
    rfl
  | b :: l, k + 1, h => by
    unfold Lib.splitK
    rw [index1_cons]
    by_cases hb : b = c
    · subst hb
      have := splitK_spl b l k (by simp at h; omega)
      simp [this, spl]
    · have hc : (b :: l).count c = l.count c := by rw [List.count_cons_of_ne hb]
      have ih := splitK_spl c l (k + 1) (by omega)
      unfold Lib.splitK at ih
      simp only [if_neg hb, spl]
      by_cases hi : Lib.index l [c] = -1
      · simp only [hi, if_true] at ih ⊢
        rw [← ih]
        rfl
      · have hge := Lib.index_ge l [c]
        have e1 : ¬ ((Lib.index l [c] == -1) = true) := by simpa using hi
        have e2 : ¬ ((Lib.index l [c] + 1 == -1) = true) := by simp; omega
        rw [if_neg e1] at ih
        simp only [if_neg hi, if_neg e2]
        have e3 : (Lib.index l [c] + 1).toNat = (Lib.index l [c]).toNat + 1 := by omega
        rw [← ih, e3]
        simp
theorem split_spl (c : UInt8) (l : List UInt8) : Lib.split l [c] = spl c l := splitK_spl c l _ (by rw [Lib.count_one]; exact Nat.le_refl _)
theorem spl_length (c : UInt8) (l : List UInt8) : (spl c l).length = l.count c + 1 := by
  induction l with
  | nil => rfl
  | cons b l ih =>
    simp only [spl]
    split
    · rename_i h; subst h; simp [ih]
    · rename_i h
      rw [List.count_cons_of_ne h, List.length_cons, List.length_tail, ih]
      omega
theorem wrap_succ {i : Nat} (h : i < 9223372036854775807) : IntKind.i64.wrap ((i : Int) + 1) = ((i + 1 : Nat) : Int) := by
  rw [wrap_i64 (by omega) (by omega)]
  omega
end Go.Pw
