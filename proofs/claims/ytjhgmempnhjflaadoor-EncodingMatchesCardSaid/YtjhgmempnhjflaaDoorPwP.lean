/-
  PW, part P: a region whose operations may come up in any order that its edges leave open: told by the text's order alone. After the kit's own two theorems on such regions (Derived/Still.lean, Derived/StillTail.lean), over pure states.
-/
import Derived.Test.YtjhgmempnhjflaaDoorPwO
import Derived.StillTail
namespace Go.Pw
open Go Go.RowKit

section
variable {P : Program} {W0 : World} {n : Nat} {ops : Array Oper} {md : Region.Mode} {h0 : Hp}

theorem svs_congr {σ σ' : St} : ∀ {xs : List Operand}, (∀ x ∈ xs, σ.eval x = σ'.eval x) → svs σ xs = svs σ' xs
  | [], _ => rfl
  | x :: xs, h => by
    have ih := svs_congr (xs := xs) fun y hy => h y (by simp [hy])
    simp only [svs, List.mapM_cons] at ih ⊢
    rw [h x (by simp), ih]

theorem onesOf_congr {σ σ' : St} : ∀ {xs : List Operand}, (∀ x ∈ xs, σ.eval x = σ'.eval x) → onesOf σ xs = onesOf σ' xs
  | [], _ => rfl
  | x :: xs, h => by
    have ih := onesOf_congr (xs := xs) fun y hy => h y (by simp [hy])
    simp only [onesOf, List.mapM_cons] at ih ⊢
    rw [h x (by simp), ih]

theorem map_congr' {σ σ' : St} {xs : List Operand} (h : ∀ x ∈ xs, σ.eval x = σ'.eval x) : xs.map σ.eval = xs.map σ'.eval := List.map_congr_left h

/-- An operation looks at its operands alone. -/
theorem pop_congr {σ σ' : St} {o : Oper} {N : Slot → Hp → Prop} (hp : σ.hp = σ'.hp) (h : ∀ x ∈ o.op.operands, σ.eval x = σ'.eval x) : pop P W0 σ o N = pop P W0 σ' o N := by
  obtain ⟨dst, op, type, pos, after, guard⟩ := o
  cases op <;> simp only [Op.operands] at h <;> simp only [pop, hp]
  case build t ps =>
    rw [List.map_congr_left (l := ps.toList) (f := fun x => (x.1, σ.eval x.2)) (g := fun x => (x.1, σ'.eval x.2)) fun p hm => by rw [h p.2 (by simp only [List.mem_toArray, List.mem_map]; exact ⟨p, hm, rfl⟩)]]
  case buildSlice t l ps =>
    rw [List.map_congr_left (l := ps.toList) (f := fun x => (x.1, σ.eval x.2)) (g := fun x => (x.1, σ'.eval x.2)) fun p hm => by rw [h p.2 (by simp only [List.mem_toArray, List.mem_map]; exact ⟨p, hm, rfl⟩)]]
  case makeFunc fn first captured =>
    rw [onesOf_congr (xs := captured.toList) fun x hx => h x (by simp only [Array.mem_append]; exact .inr (by simpa using hx))]
  case call c =>
    simp only [popCall]
    cases hc : c.callee with
    | value f =>
      have hf : σ.eval f = σ'.eval f := h f (by simp [Call.operands, hc])
      simp only [hf, svs_congr (xs := c.args.toList) fun x hx => h x (by simp only [Call.operands, Array.mem_append]; exact .inr (by simpa using hx)), hp]
    | invoke r m => rfl
    | builtin b =>
      simp only [map_congr' (xs := c.args.toList) fun x hx => h x (by simp only [Call.operands, Array.mem_append]; exact .inr (by simpa using hx)), hp]
  case slice t x lo hi mx =>
    cases lo <;> cases hi <;> cases mx <;> simp_all
  all_goals (first | rfl | (simp_all; done))

def wantV (ops : Array Oper) (e : Nat → Slot) (o : Oper) : Option Bool :=
  match o.guard with
  | none => some true
  | some (j, want) =>
    match (ops[j]?).bind (·.dst) with
    | none => some false
    | some d =>
      match e d with
      | .sv (.one (.val (.bool b))) => some (b == want)
      | .tup [] => some false
      | _ => none

def putE (e : Nat → Slot) (d : Option Tmp) (r : Slot) : Nat → Slot :=
  match d with
  | some d => upd e d r
  | none => e

theorem wanted_of {we w : World} {he : Hp} {me m : Loc} {σ : St} {a : Act} {o : Oper} {b : Bool} (R : Rel W0 we he me n σ a w m) (h : wantV ops σ.env o = some b) : Region.wanted o (yielded ops a.tmps) = b := by
  unfold wantV at h
  split at h
  · rename_i hg
    obtain rfl := Option.some.inj h
    simp [Region.wanted, hg]
  · rename_i j want hg
    split at h
    · rename_i hn
      obtain rfl := Option.some.inj h
      simp [Region.wanted, hg, yielded, hn]
    · rename_i d hs
      have hy : ∀ v, a.tmps.getD d undef = v → yielded ops a.tmps j = (match v with | .bool b => some b | _ => none) := by
        intro v hv
        simp only [yielded, hs, Option.bind_some]
        rw [Array.getD_eq_getD_getElem?] at hv
        cases hc : a.tmps[d]? with
        | none => rw [hc] at hv; simp only [Option.getD_none] at hv; subst hv; rfl
        | some u =>
          rw [hc] at hv
          simp only [Option.getD_some] at hv
          subst hv
          cases u <;> rfl
      have he := R.env d
      split at h
      · rename_i b' e
        rw [e] at he
        have hb : a.tmps.getD d undef = .bool b' := by generalize a.tmps.getD d undef = q at he; cases he; rfl
        obtain rfl := Option.some.inj h
        simp only [Region.wanted, hg, hy _ hb]
        cases b' <;> cases want <;> rfl
      · rename_i e
        rw [e] at he
        have hb : a.tmps.getD d undef = .tuple #[] := by
          obtain ⟨vs, hv, hl, _⟩ := he
          rw [hv]
          rw [List.eq_nil_of_length_eq_zero hl]
        obtain rfl := Option.some.inj h
        simp [Region.wanted, hg, hy _ hb]
      · cases h

/-- Wherever the heap only forgot what was made, this operation leaves this slot, and the heap as it was. -/
def YP (P : Program) (W0 : World) (n : Nat) (ops : Array Oper) (h0 : Hp) (o : Oper) (r : Slot) (e : Nat → Slot) : Prop :=
  dstOk n o.dst = true ∧ ((wantV ops e o = some true ∧ ∀ h, Same h0 h → pop P W0 ⟨e, h⟩ o (fun r' h' => r' = r ∧ Same h h')) ∨ (wantV ops e o = some false ∧ r = .tup []))

def qP (P : Program) (W0 : World) (n : Nat) (ops : Array Oper) (h0 : Hp) (i : Nat) (K : (Nat → Slot) → Prop) (e : Nat → Slot) : Prop :=
  ∃ o r, ops[i]? = some o ∧ YP P W0 n ops h0 o r e ∧ K (putE e o.dst r)

theorem qP_mono {i : Nat} {K K' : (Nat → Slot) → Prop} {e : Nat → Slot} (h : ∀ e, K e → K' e) (H : qP P W0 n ops h0 i K e) : qP P W0 n ops h0 i K' e :=
  let ⟨o, r, h1, h2, h3⟩ := H
  ⟨o, r, h1, h2, h _ h3⟩

def anyP (P : Program) (W0 : World) (n : Nat) (md : Region.Mode) (ops : Array Oper) (h0 : Hp) (N : Nat) (L : Array Bool → (Nat → Slot) → Prop) : Nat → Array Bool → (Nat → Slot) → Prop
  | 0, listed, e => L listed e
  | f + 1, listed, e => Region.ready md ops listed ≠ [] ∧ ∀ i ∈ Region.ready md ops listed, i < N ∧ qP P W0 n ops h0 i (anyP P W0 n md ops h0 N L f (listed.setIfInBounds i true)) e

def RelS (W0 we : World) (he : Hp) (me : Loc) (n : Nat) (h0 : Hp) (e : Nat → Slot) (a : Act) (w : World) : Prop :=
  ∃ h m, Same h0 h ∧ Rel W0 we he me n ⟨e, h⟩ a w m

theorem wpOp_of_qP {we : World} {he : Hp} {me : Loc} {i : Nat} {K : (Nat → Slot) → Prop} {K' : Act → World → Prop} {Q : Exit → Act → World → Prop} {e : Nat → Slot} {a : Act} {w : World}
    (H : qP P W0 n ops h0 i K e) (R : RelS W0 we he me n h0 e a w) (hk : ∀ e a w, K e → RelS W0 we he me n h0 e a w → K' a w) : wpOp P ops Q i K' a w := by
  obtain ⟨o, r, ho, ⟨hd, hy⟩, hK⟩ := H
  obtain ⟨h, m, hs, R⟩ := R
  unfold wpOp
  simp only [ho]
  rcases hy with ⟨hw, hp⟩ | ⟨hw, rfl⟩
  · rw [if_pos (wanted_of R hw)]
    refine .inl ((pop_ok R (hp h hs)).wp ?_)
    rintro v w' ⟨r', h', m', ⟨rfl, hs'⟩, h2, h3, h4⟩
    have R' := R.step h3 h4 h2 hd
    refine hk _ _ _ hK ⟨h', m', hs.trans hs', ?_⟩
    cases hdd : o.dst <;> rw [hdd] at R' <;> exact R'
  · rw [if_neg (by simp [wanted_of R hw])]
    have R' := R.step (h' := h) (d := o.dst) R.hr (Ext.refl _ _ _) (LR.undef _ _ _) hd
    refine hk _ _ _ hK ⟨h, m, hs, ?_⟩
    cases hdd : o.dst <;> rw [hdd] at R' <;> exact R'

theorem any_wp {we : World} {he : Hp} {me : Loc} {N g : Nat} {L : Array Bool → (Nat → Slot) → Prop} {Q : Exit → Act → World → Prop}
    (hL : ∀ listed e a w, L listed e → RelS W0 we he me n h0 e a w → wpAny P md ops Q g listed a w) :
    ∀ (f : Nat) (listed : Array Bool) (e : Nat → Slot) (a : Act) (w : World), anyP P W0 n md ops h0 N L f listed e → RelS W0 we he me n h0 e a w → wpAny P md ops Q (f + g) listed a w
  | 0, listed, e, a, w, H, R => by rw [Nat.zero_add]; exact hL _ _ _ _ H R
  | f + 1, listed, e, a, w, H, R => by
    rw [show f + 1 + g = (f + g) + 1 by omega]
    exact ⟨fun h0 => absurd h0 H.1, fun i hi => wpOp_of_qP (H.2 i hi).2 R fun e a w h r => any_wp hL f _ e a w h r⟩

theorem putE_comm (e : Nat → Slot) {x y : Option Tmp} (r s : Slot) (h : ∀ d, x = some d → y ≠ some d) : putE (putE e x r) y s = putE (putE e y s) x r := by
  cases x with
  | none => rfl
  | some d =>
    cases y with
    | none => rfl
    | some c =>
      have hne : d ≠ c := fun he => h d rfl (he ▸ rfl)
      funext i
      simp only [putE, upd]
      by_cases h1 : i = c
      · subst h1
        rw [if_pos rfl, if_neg (fun he => hne he.symm), if_pos rfl]
      · rw [if_neg h1, if_neg h1]

theorem eval_putE {e : Nat → Slot} {h : Hp} {d : Option Tmp} {r : Slot} {x : Operand} (hx : ∀ t, d = some t → x ≠ .tmp t) : (⟨putE e d r, h⟩ : St).eval x = (⟨e, h⟩ : St).eval x := by
  cases d with
  | none => rfl
  | some d =>
    cases x with
    | tmp t =>
      have hne : t ≠ d := fun he => hx d rfl (he ▸ rfl)
      simp only [St.eval, putE, upd, if_neg hne]
    | _ => rfl

theorem wantV_putE {e : Nat → Slot} {d : Option Tmp} {r : Slot} {o : Oper} (h : ∀ t, d = some t → t ∉ o.looksAt ops) : wantV ops (putE e d r) o = wantV ops e o := by
  cases d with
  | none => rfl
  | some d =>
    unfold wantV
    cases hg : o.guard with
    | none => rfl
    | some gw =>
      obtain ⟨g, want⟩ := gw
      simp only
      cases ht : (ops[g]?).bind (·.dst) with
      | none => rfl
      | some t =>
        have hne : t ≠ d := fun e => h d rfl (by subst e; simp [Oper.looksAt, hg, ht])
        simp only [putE, upd, if_neg hne]

theorem YP_putE {e : Nat → Slot} {d : Option Tmp} {r s : Slot} {o : Oper} (h : ∀ t, d = some t → t ∉ o.looksAt ops) : YP P W0 n ops h0 o s (putE e d r) ↔ YP P W0 n ops h0 o s e := by
  unfold YP
  rw [wantV_putE h]
  have : ∀ hh N, pop P W0 ⟨putE e d r, hh⟩ o N = pop P W0 ⟨e, hh⟩ o N := fun hh N => pop_congr rfl fun x hx => eval_putE fun t hd hxt => h t hd (by
    subst hxt
    exact List.mem_append_left _ (List.mem_filterMap.2 ⟨.tmp t, by simpa using hx, rfl⟩))
  simp only [this]

theorem qP_put {j : Nat} {oi oj : Oper} {v : Slot} (hj : ops[j]? = some oj) (hap : oi.apart ops oj = true) {K : (Nat → Slot) → Prop} {e : Nat → Slot}
    (hy : YP P W0 n ops h0 oi v e) (h : qP P W0 n ops h0 j K (putE e oi.dst v)) : qP P W0 n ops h0 j (fun e' => YP P W0 n ops h0 oi v e' ∧ K (putE e' oi.dst v)) e := by
  obtain ⟨h1, h2, h3⟩ := Oper.apart_spec hap
  obtain ⟨o, r, ho, hyo, hK⟩ := h
  obtain rfl : o = oj := Option.some.inj (ho.symm.trans hj)
  exact ⟨o, r, ho, (YP_putE h1).1 hyo, (YP_putE h3).2 hy, by rw [← putE_comm e v r h2]; exact hK⟩

theorem anyP_first {N i : Nat} {oi : Oper} {v : Slot} {L : Array Bool → (Nat → Slot) → Prop} (hi : ops[i]? = some oi) (hin : i < N)
    (hwait : ∀ listed : Array Bool, HeadInv md ops N listed → ∀ i, i < N → listed.getD i true = false → ∀ t, N ≤ t → t ∉ Region.ready md ops listed)
    (hdone : ∀ listed a, L listed a → ∀ j ∈ Region.ready md ops listed, N ≤ j) :
    ∀ (f : Nat) (listed : Array Bool) (e : Nat → Slot), HeadInv md ops N listed →
      (∀ j oj, ops[j]? = some oj → j ≠ i → listed.getD j true = false → (∀ e ∈ oj.after, Region.binds md e = true → e.on ≠ i) → oi.apart ops oj = true) →
      i ∈ Region.ready md ops listed → YP P W0 n ops h0 oi v e →
      anyP P W0 n md ops h0 N L f (listed.setIfInBounds i true) (putE e oi.dst v) → anyP P W0 n md ops h0 N L (f + 1) listed e := by
  intro f
  induction f with
  | zero =>
    intro listed e inv _ hr hy H
    have hun := (mem_ready.1 hr).1
    refine ⟨fun h => (by rw [h] at hr; cases hr), fun j hj => ?_⟩
    have hjn : j < N := by
      rcases Nat.lt_or_ge j N with h | h
      · exact h
      · exact absurd hj (hwait _ inv i hin hun j h)
    refine ⟨hjn, ?_⟩
    by_cases hji : j = i
    · subst hji; exact ⟨oi, v, hi, hy, H⟩
    · have := hdone _ _ H j (ready_mono hj hji)
      omega
  | succ f ih =>
    intro listed e inv hfree hr hy H
    have hun := (mem_ready.1 hr).1
    refine ⟨fun h => (by rw [h] at hr; cases hr), fun j hj => ?_⟩
    have hjn : j < N := by
      rcases Nat.lt_or_ge j N with h | h
      · exact h
      · exact absurd hj (hwait _ inv i hin hun j h)
    refine ⟨hjn, ?_⟩
    by_cases hji : j = i
    · subst hji; exact ⟨oi, v, hi, hy, H⟩
    · have h1 := (H.2 j (ready_mono hj hji)).2
      obtain ⟨hjun, oj, hoj, hall⟩ := mem_ready.1 hj
      have hnot : ∀ e ∈ oj.after, Region.binds md e = true → e.on ≠ i := fun e he hb heq => by
        have h1 := hall e he hb
        rw [heq, getD_both hun] at h1
        cases h1
      have h2 := qP_put hoj (hfree j oj hoj hji hjun hnot) hy h1
      have hfree' : ∀ k ok, ops[k]? = some ok → k ≠ i → (listed.setIfInBounds j true).getD k true = false →
          (∀ e ∈ ok.after, Region.binds md e = true → e.on ≠ i) → oi.apart ops ok = true := fun k ok hk hki hun hno => by
        refine hfree k ok hk hki ?_ hno
        by_cases hjk : j = k
        · subst hjk; exact hjun
        · rw [getD_set_ne true hjk] at hun; exact hun
      refine qP_mono (fun a' h3 => ih (listed.setIfInBounds j true) a' (inv.set hj hjn) hfree' (ready_mono hr (Ne.symm hji)) h3.1 ?_) h2
      rw [Array.setIfInBounds_comm _ _ hji]
      exact h3.2

/-- The text's order: each operation by its one slot. -/
def lexP (P : Program) (W0 : World) (n : Nat) (ops : Array Oper) (h0 : Hp) (K : (Nat → Slot) → Prop) : List Oper → (Nat → Slot) → Prop
  | [], e => K e
  | o :: rest, e => ∃ r, YP P W0 n ops h0 o r e ∧ lexP P W0 n ops h0 K rest (putE e o.dst r)

theorem anyP_lex {N g : Nat} {K : (Nat → Slot) → Prop}
    (hwait : ∀ listed : Array Bool, HeadInv md ops N listed → ∀ i, i < N → listed.getD i true = false → ∀ t, N ≤ t → t ∉ Region.ready md ops listed) :
    ∀ (l : List Oper) (k : Nat) (listed : Array Bool) (e : Nat → Slot), (∀ j, j < l.length → l[j]? = ops[k + j]?) → k + l.length = N → HeadInv md ops N listed →
    Region.lexHead md ops g l.length k listed = true → lexP P W0 n ops h0 K l e →
    anyP P W0 n md ops h0 N (fun listed' e' => Region.seqB md ops g N listed' = true ∧ K e') l.length listed e
  | [], k, listed, e, _, hk, _, hB, h => by
    have : k = N := by simpa using hk
    subst this
    exact ⟨by simpa [Region.lexHead] using hB, h⟩
  | o :: l, k, listed, e, hl, hk, inv, hB, h => by
    have ho : ops[k]? = some o := by simpa using (hl 0 (by simp)).symm
    simp only [List.length_cons, Region.lexHead, Bool.and_eq_true] at hB
    obtain ⟨⟨hr, hf⟩, hB'⟩ := hB
    have hkn : k < N := by simp only [List.length_cons] at hk; omega
    have hr' : k ∈ Region.ready md ops listed := by simpa using hr
    obtain ⟨r, hy, hK⟩ := h
    exact anyP_first ho hkn hwait (fun listed' a' hL => seqB_ready hL.1) l.length listed e inv (Region.free_spec ho hf) hr' hy
      (anyP_lex hwait l (k + 1) _ _ (fun j hj => by have := hl (j + 1) (by simp; omega); simpa [Nat.add_assoc, Nat.add_comm 1 j] using this) (by simp only [List.length_cons] at hk; omega) (inv.set hr' hkn) hB' hK)

/-- Of this length the head: its operations in the text's order; whatever the order, none comes up before its turn that would be seen. -/
def drawB (ops : Array Oper) (N : Nat) : Bool :=
  decide (N ≤ ops.size) && (decide (N = ops.size) || (Region.sinkB .any ops N && Region.chainB .any ops N)) && Region.lexHead .any ops (ops.size - N) N 0 (Array.replicate ops.size false)

theorem pwp_draw {K : Exit → St → Prop} {e : Nat → Slot} {id : Nat} {l : List Oper} (N : Nat) (hm : P.follows .mixedOrders = true) (hB : drawB l.toArray N = true)
    (H : lexP P W0 n l.toArray h0 (fun e' => ∀ h', Same h0 h' → pops P W0 n l.toArray (K .normal) (l.drop N) ⟨e', h'⟩) (l.take N) e) : PWP P W0 n (.region id l.toArray true) K ⟨e, h0⟩ := by
  intro we he me a w m R
  simp only [drawB, Bool.and_eq_true, Bool.or_eq_true, decide_eq_true_eq] at hB
  obtain ⟨⟨hn, hsc⟩, hlex⟩ := hB
  have hn' : N ≤ l.length := by simpa using hn
  have htl : (l.take N).length = N := by simp; omega
  have hdl : (l.drop N).length = l.toArray.size - N := by simp
  have hwait : ∀ listed : Array Bool, HeadInv .any l.toArray N listed → ∀ i, i < N → listed.getD i true = false → ∀ t, N ≤ t → t ∉ Region.ready .any l.toArray listed := by
    intro listed inv i hi hun t ht
    rcases hsc with h | ⟨hs, hc⟩
    · intro hr
      obtain ⟨_, ot, hot, _⟩ := mem_ready.1 hr
      have := (Array.getElem?_eq_some_iff.1 hot).1
      omega
    · rcases Nat.lt_or_ge N l.toArray.size with h | h
      · exact tail_waits hs hc h inv _ i rfl hi hun t ht
      · intro hr
        obtain ⟨_, ot, hot, _⟩ := mem_ready.1 hr
        have := (Array.getElem?_eq_some_iff.1 hot).1
        omega
  have inv0 : HeadInv .any l.toArray N (Array.replicate l.toArray.size false) :=
    ⟨by simp, fun j oj _ hl => (by rw [getD_replicate_false] at hl; cases hl), fun t _ ht => getD_in (by simpa using ht) (getD_replicate_false _ _)⟩
  have A := anyP_lex (md := .any) (g := l.toArray.size - N) hwait (l.take N) 0 _ e (fun j hj => by
    have hj' : j < N := by rw [htl] at hj; exact hj
    simp [hj']) (by simpa using htl) inv0 (by rw [htl]; exact hlex) H
  have R0 : RelS W0 we he me n h0 e a { w with drawn := w.drawn + 1 } := by
    have b : Below w.heap.size w { w with drawn := w.drawn + 1 } := ⟨rfl, rfl, rfl, Nat.le_refl _, fun _ _ => rfl⟩
    exact ⟨h0, m, .refl _, R.hr.grow b, R.ext.trans (Ext.grow b), R.size, R.defers, fun i => (R.env i).ext (Ext.grow b)⟩
  refine wp_region_any hm ?_
  have := any_wp (md := .any) (g := l.toArray.size - N) (Q := fun e a' w' => ∃ σ' m', K e σ' ∧ Rel W0 we he me n σ' a' w' m') (fun listed e' a' w' hL hR => by
    obtain ⟨hseq, hL⟩ := hL
    obtain ⟨h', m', hs, R'⟩ := hR
    have := wpAny_of_seq (md := .any) (Q' := fun e a' w' => ∃ σ' m', K e σ' ∧ Rel W0 we he me n σ' a' w' m') (l.drop N) N listed a' w' (fun j => by simp [List.getElem?_drop]) (by rw [hdl]; exact hseq)
      (pops_ok (l.drop N) _ a' w' m' R' (hL h' hs) fun σ a w m hn hr => ⟨σ, m, hn, hr⟩)
    rwa [hdl] at this) _ _ _ _ _ A R0
  rw [htl, show N + (l.toArray.size - N) = l.toArray.size by omega] at this
  exact this

theorem lex_to {K : (Nat → Slot) → Prop} {rest : List Oper} {e : Nat → Slot} {d : Nat} {op : Op} {ty : TypeId} {pos : String} {af : Array Edge} {r : Slot} (hd : decide (d < n) = true)
    (H : ∀ h, Same h0 h → ∀ M : Slot → Hp → Prop, (∀ h', Same h h' → M r h') → pop P W0 ⟨e, h⟩ ⟨some d, op, ty, pos, af, none⟩ M) (H2 : lexP P W0 n ops h0 K rest (upd e d r)) :
    lexP P W0 n ops h0 K (⟨some d, op, ty, pos, af, none⟩ :: rest) e :=
  ⟨r, ⟨hd, .inl ⟨rfl, fun h s => H h s _ fun _h' s' => ⟨rfl, s'⟩⟩⟩, H2⟩

theorem lex_no {K : (Nat → Slot) → Prop} {rest : List Oper} {e : Nat → Slot} {op : Op} {ty : TypeId} {pos : String} {af : Array Edge} {r : Slot}
    (H : ∀ h, Same h0 h → ∀ M : Slot → Hp → Prop, (∀ h', Same h h' → M r h') → pop P W0 ⟨e, h⟩ ⟨none, op, ty, pos, af, none⟩ M) (H2 : lexP P W0 n ops h0 K rest e) :
    lexP P W0 n ops h0 K (⟨none, op, ty, pos, af, none⟩ :: rest) e :=
  ⟨r, ⟨rfl, .inl ⟨rfl, fun h s => H h s _ fun _h' s' => ⟨rfl, s'⟩⟩⟩, H2⟩

theorem lex_do {K : (Nat → Slot) → Prop} {rest : List Oper} {e : Nat → Slot} {d j g : Nat} {want : Bool} {op : Op} {ty : TypeId} {pos : String} {af : Array Edge} {r : Slot} (hd : decide (d < n) = true)
    (hj : (ops[j]?).bind (·.dst) = some g) (hg : e g = .sv (.one (.val (.bool want))))
    (H : ∀ h, Same h0 h → ∀ M : Slot → Hp → Prop, (∀ h', Same h h' → M r h') → pop P W0 ⟨e, h⟩ ⟨some d, op, ty, pos, af, some (j, want)⟩ M) (H2 : lexP P W0 n ops h0 K rest (upd e d r)) :
    lexP P W0 n ops h0 K (⟨some d, op, ty, pos, af, some (j, want)⟩ :: rest) e :=
  ⟨r, ⟨hd, .inl ⟨by simp [wantV, hj, hg], fun h s => H h s _ fun h' s' => ⟨rfl, s'⟩⟩⟩, H2⟩

theorem lex_off {K : (Nat → Slot) → Prop} {rest : List Oper} {e : Nat → Slot} {d j g : Nat} {want b : Bool} {op : Op} {ty : TypeId} {pos : String} {af : Array Edge} (hd : decide (d < n) = true)
    (hj : (ops[j]?).bind (·.dst) = some g) (hg : e g = .sv (.one (.val (.bool b)))) (hb : b ≠ want) (H2 : lexP P W0 n ops h0 K rest (upd e d (.tup []))) :
    lexP P W0 n ops h0 K (⟨some d, op, ty, pos, af, some (j, want)⟩ :: rest) e :=
  ⟨.tup [], ⟨hd, .inr ⟨by simp [wantV, hj, hg, hb], rfl⟩⟩, H2⟩

theorem lex_off0 {K : (Nat → Slot) → Prop} {rest : List Oper} {e : Nat → Slot} {d j g : Nat} {want : Bool} {op : Op} {ty : TypeId} {pos : String} {af : Array Edge} (hd : decide (d < n) = true)
    (hj : (ops[j]?).bind (·.dst) = some g) (hg : e g = .tup []) (H2 : lexP P W0 n ops h0 K rest (upd e d (.tup []))) :
    lexP P W0 n ops h0 K (⟨some d, op, ty, pos, af, some (j, want)⟩ :: rest) e :=
  ⟨.tup [], ⟨hd, .inr ⟨by simp [wantV, hj, hg], rfl⟩⟩, H2⟩

theorem lex_split {K : (Nat → Slot) → Prop} {l : List Oper} {e : Nat → Slot} (g : Nat) {b : Bool} (hg : e g = .sv (.one (.val (.bool b)))) (H1 : b = true → lexP P W0 n ops h0 K l e) (H2 : b = false → lexP P W0 n ops h0 K l e) : lexP P W0 n ops h0 K l e := by
  cases b with
  | true => exact H1 rfl
  | false => exact H2 rfl

theorem lex_done {K : (Nat → Slot) → Prop} {e : Nat → Slot} (H : K e) : lexP P W0 n ops h0 K [] e := H

theorem pwp_dreg {K : Exit → St → Prop} {e : Nat → Slot} {id : Nat} {l : List Oper} (N : Nat) (hm : P.follows .mixedOrders = true) (hB : drawB l.toArray N = true)
    (H : ∀ M : St → Prop, (∀ σ, K .normal σ → M σ) → lexP P W0 n l.toArray h0 (fun e' => ∀ h', Same h0 h' → pops P W0 n l.toArray M (l.drop N) ⟨e', h'⟩) (l.take N) e) : PWP P W0 n (.region id l.toArray true) K ⟨e, h0⟩ :=
  pwp_draw N hm hB (H _ fun _ h => h)

end
end Go.Pw
