/-
  PW, part C: slots, states, calls, and code: what a piece of code does, told over the pure state alone; the rules for control.
-/
import Derived.Test.YtjhgmempnhjflaaDoorPwB
import Derived.Deep.LoopGhost
namespace Go.Pw
open Go Go.RowKit

inductive SV where
  | one (p : PV)
  | agg (ps : List PV)

inductive Slot where
  | sv (s : SV)
  | tup (vs : List SV)
  | any

def SVR (w : World) (h : Hp) (m : Loc) : SV → Value → Prop
  | .one p, v => VR w h m p v
  | .agg ps, v => ∃ vs : List Value, v = .agg vs.toArray ∧ vs.length = ps.length ∧ ∀ (j : Nat) (p : PV) (u : Value), ps[j]? = some p → vs[j]? = some u → VR w h m p u

def LR (w : World) (h : Hp) (m : Loc) : Slot → Value → Prop
  | .sv s, v => SVR w h m s v
  | .tup ss, v => ∃ vs : List Value, v = .tuple vs.toArray ∧ vs.length = ss.length ∧ ∀ (j : Nat) (s : SV) (u : Value), ss[j]? = some s → vs[j]? = some u → SVR w h m s u
  | .any, _ => True

theorem SVR.ext {w w' : World} {h h' : Hp} {m m' : Loc} {s : SV} {v : Value} (H : SVR w h m s v) (x : Ext w h m w' h' m') : SVR w' h' m' s v := by
  cases s with
  | one p => exact VR.ext H x
  | agg ps =>
    obtain ⟨vs, e, hl, hv⟩ := H
    exact ⟨vs, e, hl, fun j p u h1 h2 => (hv j p u h1 h2).ext x⟩

theorem LR.ext {w w' : World} {h h' : Hp} {m m' : Loc} {s : Slot} {v : Value} (H : LR w h m s v) (x : Ext w h m w' h' m') : LR w' h' m' s v := by
  cases s with
  | sv s => exact SVR.ext H x
  | tup ss =>
    obtain ⟨vs, e, hl, hv⟩ := H
    exact ⟨vs, e, hl, fun j s u h1 h2 => (hv j s u h1 h2).ext x⟩
  | any => trivial

theorem LR.undef (w : World) (h : Hp) (m : Loc) : LR w h m (.tup []) Go.undef := ⟨[], rfl, rfl, fun j s u h1 => by simp at h1⟩

structure St where
  env : Nat → Slot
  hp : Hp

def St.put (σ : St) (d : Option Tmp) (r : Slot) : St :=
  match d with
  | some d => ⟨fun i => if i = d then r else σ.env i, σ.hp⟩
  | none => σ

structure Rel (W0 we : World) (he : Hp) (me : Loc) (n : Nat) (σ : St) (a : Act) (w : World) (m : Loc) : Prop where
  hr : HR W0 w σ.hp m
  ext : Ext we he me w σ.hp m
  size : a.tmps.size = n
  defers : a.defers = []
  env : ∀ i, LR w σ.hp m (σ.env i) (a.tmps.getD i undef)

def dstOk (n : Nat) : Option Tmp → Bool
  | some d => decide (d < n)
  | none => true

theorem Rel.step {W0 we w w' : World} {he : Hp} {me m m' : Loc} {n : Nat} {σ : St} {a : Act} {h' : Hp} {r : Slot} {v : Value} {d : Option Tmp} (R : Rel W0 we he me n σ a w m)
    (H : HR W0 w' h' m') (x : Ext w σ.hp m w' h' m') (hr : LR w' h' m' r v) (hd : dstOk n d = true) : Rel W0 we he me n (St.put ⟨σ.env, h'⟩ d r) (a.put d v) w' m' := by
  cases d with
  | none => exact ⟨H, R.ext.trans x, R.size, R.defers, fun i => (R.env i).ext x⟩
  | some d =>
    have hd' : d < n := by simpa [dstOk] using hd
    refine ⟨H, R.ext.trans x, by simp [Act.put, R.size], R.defers, fun i => ?_⟩
    simp only [St.put, Act.put]
    by_cases e : i = d
    · subst e
      rw [if_pos rfl]
      have : (a.tmps.setIfInBounds i v).getD i undef = v := by
        simp [Array.getD, R.size, hd']
      rw [this]
      exact hr
    · rw [if_neg e]
      have : (a.tmps.setIfInBounds d v).getD i undef = a.tmps.getD i undef := by
        simp only [Array.getD_eq_getD_getElem?, Array.getElem?_setIfInBounds]
        rw [if_neg (fun h => e h.symm)]
      rw [this]
      exact (R.env i).ext x

/-- A weaker state: what is known of the old one says what the new one claims. -/
structure Wk (W0 : World) (σ σ' : St) : Prop where
  less : Less σ.hp σ'.hp
  env : ∀ w m, HR W0 w σ.hp m → ∀ i v, LR w σ.hp m (σ.env i) v → LR w σ'.hp m (σ'.env i) v

theorem Wk.refl (W0 : World) (σ : St) : Wk W0 σ σ := ⟨Less.refl _, fun _ _ _ _ _ h => h⟩

theorem Rel.wk {W0 we w : World} {he : Hp} {me m : Loc} {n : Nat} {σ σ' : St} {a : Act} (R : Rel W0 we he me n σ a w m) (k : Wk W0 σ σ') : Rel W0 we he me n σ' a w m :=
  ⟨R.hr.less k.less, R.ext.trans k.less.ext, R.size, R.defers, fun i => k.env w m R.hr i _ (R.env i)⟩

/-- What a piece of code does. -/
def PWP (P : Program) (W0 : World) (n : Nat) (c : Code) (K : Exit → St → Prop) (σ : St) : Prop :=
  ∀ we he me a w m, Rel W0 we he me n σ a w m → c.wp P (fun e a' w' => ∃ σ' m', K e σ' ∧ Rel W0 we he me n σ' a' w' m') a w

section
variable {P : Program} {W0 : World} {n : Nat} {K K' : Exit → St → Prop} {σ σ' : St} {c x y : Code}

theorem PWP.mono (H : PWP P W0 n c K σ) (hk : ∀ e σ, K e σ → K' e σ) : PWP P W0 n c K' σ :=
  fun we he me a w m R => wp_mono (H we he me a w m R) fun _ _ _ ⟨σ', m', h, r⟩ => ⟨σ', m', hk _ _ h, r⟩

theorem PWP.wk (H : PWP P W0 n c K σ') (k : Wk W0 σ σ') : PWP P W0 n c K σ := fun we he me a w m R => H we he me a w m (R.wk k)

/-- Behind a piece of code that ends normally: the next one; else as it ended. -/
def thenK (N : St → Prop) (K : Exit → St → Prop) : Exit → St → Prop
  | .normal, σ => N σ
  | e, σ => K e σ

theorem pwp_seq (H : PWP P W0 n x (thenK (PWP P W0 n y K) K) σ) : PWP P W0 n (.seq x y) K σ := by
  intro we he me a w m R
  refine wp_seq (wp_mono (H we he me a w m R) ?_)
  rintro e a' w' ⟨σ', m', hk, r⟩
  cases e with
  | normal => exact hk we he me a' w' m' r
  | _ => exact ⟨σ', m', hk, r⟩

theorem pwp_skip (H : K .normal σ) : PWP P W0 n .skip K σ := fun _ _ _ _ _ m R => wp_skip ⟨σ, m, H, R⟩
theorem pwp_ret (H : K .ret σ) : PWP P W0 n .ret K σ := fun _ _ _ _ _ m R => wp_ret ⟨σ, m, H, R⟩
theorem pwp_exit {id : Nat} (H : K (.exit id) σ) : PWP P W0 n (.exit id) K σ := fun _ _ _ _ _ m R => wp_exit ⟨σ, m, H, R⟩

def blockK (id : Nat) (K : Exit → St → Prop) : Exit → St → Prop
  | .exit j, σ => if j = id then K .normal σ else K (.exit j) σ
  | e, σ => K e σ

theorem pwp_block {id : Nat} (H : PWP P W0 n c (blockK id K) σ) : PWP P W0 n (.block id c) K σ := by
  intro we he me a w m R
  refine wp_block (wp_mono (H we he me a w m R) ?_)
  rintro e a' w' ⟨σ', m', hk, r⟩
  cases e with
  | exit j =>
    simp only [blockK] at hk
    simp only [Exit.inBlock]
    split
    · rename_i e; rw [if_pos e] at hk; exact ⟨σ', m', hk, r⟩
    · rename_i e; rw [if_neg e] at hk; exact ⟨σ', m', hk, r⟩
  | _ => exact ⟨σ', m', hk, r⟩

def constSlot : Value → Slot
  | .agg cs => if cs.all (·.oneCell') then .sv (.agg (cs.toList.map .val)) else .any
  | .tuple vs => if vs.size = 0 then .tup [] else .any
  | v => .sv (.one (.val v))

def St.eval (σ : St) : Operand → Slot
  | .tmp t => σ.env t
  | .const v => constSlot v
  | .global g => .sv (.one (.val (.pointer (some ⟨g, 0, none⟩))))
  | .func f => .sv (.one (.clo (.func f) []))

theorem constSlot_ok (w : World) (h : Hp) (m : Loc) (v : Value) : LR w h m (constSlot v) v := by
  cases v with
  | agg cs =>
    simp only [constSlot]
    split
    · rename_i hall
      refine ⟨cs.toList, by simp, by simp, fun j p u h1 h2 => ?_⟩
      simp only [List.getElem?_map, h2, Option.map_some, Option.some.injEq] at h1
      subst h1
      exact .val u (by
        have := Array.all_eq_true_iff_forall_mem.1 hall u (by
          have := List.mem_of_getElem? h2
          simpa using this)
        simpa using this)
    · trivial
  | tuple vs =>
    simp only [constSlot]
    split
    · rename_i hs
      obtain rfl : vs = #[] := Array.eq_empty_of_size_eq_zero hs
      exact LR.undef w h m
    · trivial
  | _ => exact .val _ rfl

theorem Rel.eval {we w : World} {he : Hp} {me m : Loc} {a : Act} (R : Rel W0 we he me n σ a w m) (x : Operand) : LR w σ.hp m (σ.eval x) (a.eval x) := by
  cases x with
  | tmp t => exact R.env t
  | const v => exact constSlot_ok w σ.hp m v
  | global g => exact .val _ rfl
  | func f => exact .clo (.func f) [] [] rfl (fun j p v h1 => by simp at h1)

theorem pwp_cond {c : Operand} {t : Bool} (hc : σ.eval c = .sv (.one (.val (.bool t)))) (H1 : t = true → PWP P W0 n x K σ) (H2 : t = false → PWP P W0 n y K σ) : PWP P W0 n (.cond c x y) K σ := by
  intro we he me a w m R
  have h := R.eval c
  rw [hc] at h
  have hv : a.eval c = .bool t := by
    generalize a.eval c = v at h
    cases h
    rfl
  refine wp_cond_split hv (fun ht => H1 ht we he me a w m R) (fun ht => H2 ht we he me a w m R)

theorem pwp_cond_true {c : Operand} (hc : σ.eval c = .sv (.one (.val (.bool true)))) (H : PWP P W0 n x K σ) : PWP P W0 n (.cond c x y) K σ := pwp_cond hc (fun _ => H) (fun h => by cases h)
theorem pwp_cond_false {c : Operand} (hc : σ.eval c = .sv (.one (.val (.bool false)))) (H : PWP P W0 n y K σ) : PWP P W0 n (.cond c x y) K σ := pwp_cond hc (fun h => by cases h) (fun _ => H)

/-- A loop: what holds at each round's head, with a number that falls. -/
theorem pwp_loop (I : Nat → St → Prop) (k0 : Nat) (h0 : ∃ σ', Wk W0 σ σ' ∧ I k0 σ')
    (round : ∀ k σ, I k σ → PWP P W0 n c (thenK (fun σ' => ∃ k', k' < k ∧ ∃ σ'', Wk W0 σ' σ'' ∧ I k' σ'') K) σ) : PWP P W0 n (.loop c) K σ := by
  intro we he me a w m R
  obtain ⟨σ0, k, hI⟩ := h0
  refine wp_loop_ghost (fun k a w => ∃ σ m, I k σ ∧ Rel W0 we he me n σ a w m) k0 ⟨σ0, m, hI, R.wk k⟩ ?_
  rintro k a w ⟨σ, m, hI, R⟩
  refine wp_mono (round k σ hI we he me a w m R) ?_
  rintro e a' w' ⟨σ', m', hk, r⟩
  cases e with
  | normal =>
    obtain ⟨k', hlt, σ'', hw, hI'⟩ := hk
    exact ⟨k', hlt, σ'', m', hI', r.wk hw⟩
  | _ => exact ⟨σ', m', hk, r⟩

/-- A call: what comes back, told over the pure state. -/
def PCalls (P : Program) (W0 : World) (f : FuncId) (args : List SV) (h : Hp) (R : Slot → Hp → Prop) : Prop :=
  (∃ fn, P.funcs[f]? = some fn ∧ fn.body.isSome = true ∧ (fn.name == "runtime.NumGoroutine") = false) ∧
  ∀ w m (vs : List Value), HR W0 w h m → vs.length = args.length → (∀ (j : Nat) (s : SV) (v : Value), args[j]? = some s → vs[j]? = some v → SVR w h m s v) →
    Calls P f vs.toArray w fun e w' => ∃ v r h' m', e = .returned v ∧ R r h' ∧ LR w' h' m' r v ∧ HR W0 w' h' m' ∧ Ext w h m w' h' m'

theorem PCalls.mono {f : FuncId} {args : List SV} {h : Hp} {R R' : Slot → Hp → Prop} (H : PCalls P W0 f args h R) (hr : ∀ r h', R r h' → R' r h') : PCalls P W0 f args h R' :=
  ⟨H.1, fun w m vs h1 h2 h3 => (H.2 w m vs h1 h2 h3).mono fun _ _ ⟨v, r, h', m', a, b, c⟩ => ⟨v, r, h', m', a, hr _ _ b, c⟩⟩

def entryEnv (args : List SV) (i : Nat) : Slot :=
  match args[i]? with
  | some s => .sv s
  | none => .tup []

/-- What a function's body leaves: its results. -/
def resSlot (fn : Func) (σ : St) : Option Slot :=
  match fn.results.toList with
  | [] => some (.tup [])
  | [.tmp t] => some (σ.env t)
  | [.tmp t, .tmp u] => match σ.env t, σ.env u with | .sv a, .sv b => some (.tup [a, b]) | _, _ => none
  | [.tmp t, .tmp u, .tmp x] => match σ.env t, σ.env u, σ.env x with | .sv a, .sv b, .sv c => some (.tup [a, b, c]) | _, _, _ => none
  | _ => none

/-- A weaker slot over fewer blocks. -/
structure SlotWk (W0 : World) (h : Hp) (s : Slot) (h' : Hp) (s' : Slot) : Prop where
  less : Less h h'
  slot : ∀ w m, HR W0 w h m → ∀ v, LR w h m s v → LR w h' m s' v

theorem SlotWk.refl (W0 : World) (h : Hp) (s : Slot) : SlotWk W0 h s h s := ⟨Less.refl _, fun _ _ _ _ h => h⟩
theorem SlotWk.less' {h h' : Hp} (l : Less h h') (s : Slot) : SlotWk W0 h s h' s := ⟨l, fun _ _ _ _ H => H.ext l.ext⟩

def bodyK (W0 : World) (fn : Func) (R : Slot → Hp → Prop) : Exit → St → Prop
  | .normal, σ | .ret, σ => ∃ s, resSlot fn σ = some s ∧ ∃ r h', SlotWk W0 σ.hp s h' r ∧ R r h'
  | _, _ => False

theorem results_three {fn : Func} {t u x : Tmp} (h : fn.results = #[.tmp t, .tmp u, .tmp x]) (tmps : Array Value) (w : World) :
    (results fn tmps).run P w = .ok (.tuple #[tmps.getD t undef, tmps.getD u undef, tmps.getD x undef]) w := by
  simp [results, h]

theorem resSlot_ok {fn : Func} {we w : World} {he : Hp} {me m : Loc} {a : Act} {s : Slot} (R : Rel W0 we he me n σ a w m) (h : resSlot fn σ = some s) :
    ∃ v, (results fn a.tmps).run P w = .ok v w ∧ LR w σ.hp m s v := by
  unfold resSlot at h
  have hres : ∀ l, fn.results.toList = l → fn.results = l.toArray := fun l e => by rw [← e]
  split at h
  · rename_i e
    obtain rfl := Option.some.inj h
    exact ⟨_, results_none (hres _ e) _ _ _, LR.undef _ _ _⟩
  · rename_i t e
    obtain rfl := Option.some.inj h
    exact ⟨_, results_tmp (hres _ e) _ _ _, R.env t⟩
  · rename_i t u e
    split at h
    · rename_i x y hx hy
      obtain rfl := Option.some.inj h
      refine ⟨_, results_tmp2 (hres _ e) _ _ _, [_, _], rfl, rfl, fun j s v h1 h2 => ?_⟩
      have r1 := R.env t
      have r2 := R.env u
      rw [hx] at r1
      rw [hy] at r2
      match j, h1, h2 with
      | 0, h1, h2 => obtain rfl := Option.some.inj h1; obtain rfl := Option.some.inj h2; exact r1
      | 1, h1, h2 => obtain rfl := Option.some.inj h1; obtain rfl := Option.some.inj h2; exact r2
    · cases h
  · rename_i t u x e
    split at h
    · rename_i x1 y1 z1 hx hy hz
      obtain rfl := Option.some.inj h
      refine ⟨_, results_three (hres _ e) _ _, [_, _, _], rfl, rfl, fun j s v h1 h2 => ?_⟩
      have r1 := R.env t
      have r2 := R.env u
      have r3 := R.env x
      rw [hx] at r1
      rw [hy] at r2
      rw [hz] at r3
      match j, h1, h2 with
      | 0, h1, h2 => obtain rfl := Option.some.inj h1; obtain rfl := Option.some.inj h2; exact r1
      | 1, h1, h2 => obtain rfl := Option.some.inj h1; obtain rfl := Option.some.inj h2; exact r2
      | 2, h1, h2 => obtain rfl := Option.some.inj h1; obtain rfl := Option.some.inj h2; exact r3
    · cases h
  · cases h

/-- A function by its body. -/
theorem pcalls_body {f : FuncId} {fn : Func} {args : List SV} {h : Hp} {R : Slot → Hp → Prop} (hf : P.funcs[f]? = some fn) (hb : fn.body = some c) (hn : (fn.name == "runtime.NumGoroutine") = false)
    (hs : n = args.length + (fn.ntmps - args.length)) (H : (∀ id b, h.blk id = some b → id < h.lim) → PWP P W0 n c (bodyK W0 fn R) ⟨entryEnv args, h⟩) : PCalls P W0 f args h R := by
  refine ⟨⟨fn, hf, by rw [hb]; rfl, hn⟩, fun w m vs hr hl hvs => ?_⟩
  refine calls_of_wp hf hb ?_
  have R0 : Rel W0 w h m n ⟨entryEnv args, h⟩ { tmps := vs.toArray ++ Array.replicate (fn.ntmps - vs.toArray.size) undef, defers := [] } w m := by
    refine ⟨hr, Ext.refl _ _ _, by simp [hl, hs], rfl, fun i => ?_⟩
    have hg : (vs.toArray ++ Array.replicate (fn.ntmps - vs.toArray.size) undef).getD i undef = (vs[i]?).getD undef := by
      simp only [Array.getD_eq_getD_getElem?, Array.getElem?_append, List.size_toArray, List.getElem?_toArray]
      split
      · rfl
      · rename_i hi
        rw [List.getElem?_eq_none (by omega)]
        simp only [Array.getElem?_replicate, Option.getD_none]
        split <;> rfl
    show LR w h m (entryEnv args i) ((vs.toArray ++ Array.replicate (fn.ntmps - vs.toArray.size) undef).getD i undef)
    rw [hg]
    unfold entryEnv
    cases hi : args[i]? with
    | none =>
      rw [List.getElem?_eq_none (by have := List.getElem?_eq_none_iff.1 hi; omega)]
      exact LR.undef _ _ _
    | some s =>
      have hlt : i < vs.length := by have := (List.getElem?_eq_some_iff.1 hi).1; omega
      rw [List.getElem?_eq_getElem hlt]
      exact hvs i s _ hi (List.getElem?_eq_getElem hlt)
  refine wp_mono (H hr.bound w h m _ w m R0) ?_
  rintro e a' w' ⟨σ', m', hk, r⟩
  have fin : (∃ s, resSlot fn σ' = some s ∧ ∃ r h', SlotWk W0 σ'.hp s h' r ∧ R r h') →
      a'.defers = [] ∧ ∃ v, (results fn a'.tmps).run P w' = .ok v w' ∧ ∃ v' r h' m', Ending.returned v = .returned v' ∧ R r h' ∧ LR w' h' m' r v' ∧ HR W0 w' h' m' ∧ Ext w h m w' h' m' := by
    rintro ⟨s, hs, r', h', wk, hR⟩
    obtain ⟨v, hv, hl⟩ := resSlot_ok (P := P) r hs
    exact ⟨r.defers, v, hv, v, r', h', m', rfl, hR, wk.slot w' m' r.hr v hl, r.hr.less wk.less, r.ext.trans wk.less.ext⟩
  cases e with
  | normal => exact fin hk
  | ret => exact fin hk
  | _ => exact hk.elim

end
end Go.Pw
