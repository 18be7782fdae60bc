/-
  PW, part M: a region; functions by their bodies.
-/
import Derived.Test.YtjhgmempnhjflaaDoorPwL
namespace Go.Pw
open Go Go.RowKit

section
variable {P : Program} {W0 : World} {n : Nat} {K : Exit → St → Prop} {σ : St} {ops : Array Oper}

/-- Is this operation performed? none: not known. -/
def wantP (ops : Array Oper) (σ : St) (o : Oper) (Y Z : Prop) : Prop :=
  match o.guard with
  | none => Y
  | some (j, want) =>
    match (ops[j]?).bind (·.dst) with
    | none => Z
    | some d =>
      match σ.env d with
      | .sv (.one (.val (.bool b))) => (b = want → Y) ∧ (b ≠ want → Z)
      | .tup [] => Z
      | _ => False

/-- The operations of a region, in the text's order; ahead of each one the state may be told more weakly. -/
def pops (P : Program) (W0 : World) (n : Nat) (ops : Array Oper) (N : St → Prop) : List Oper → St → Prop
  | [], σ => ∃ σ', Wk W0 σ σ' ∧ N σ'
  | o :: rest, σ0 => ∃ σ, Wk W0 σ0 σ ∧ dstOk n o.dst = true ∧ wantP ops σ o
      (pop P W0 σ o fun r h => pops P W0 n ops N rest (St.put ⟨σ.env, h⟩ o.dst r))
      (pops P W0 n ops N rest (σ.put o.dst (.tup [])))

theorem Wk.trans {a b c : St} (x : Wk W0 a b) (y : Wk W0 b c) : Wk W0 a c :=
  ⟨x.less.trans y.less, fun w m R i v h => y.env w m (R.less x.less) i v (x.env w m R i v h)⟩

theorem pops_wk {N : St → Prop} {l : List Oper} {σ' : St} (H : pops P W0 n ops N l σ') (k : Wk W0 σ σ') : pops P W0 n ops N l σ := by
  cases l with
  | nil => obtain ⟨σ1, a, b⟩ := H; exact ⟨σ1, k.trans a, b⟩
  | cons o l => obtain ⟨σ1, a, b⟩ := H; exact ⟨σ1, k.trans a, b⟩

theorem pops_ok {N : St → Prop} {we : World} {he : Hp} {me : Loc} {Q : Exit → Act → World → Prop} : ∀ (l : List Oper) (σ : St) (a : Act) (w : World) (m : Loc), Rel W0 we he me n σ a w m → pops P W0 n ops N l σ →
    (∀ σ a w m, N σ → Rel W0 we he me n σ a w m → Q .normal a w) → wpList P ops Q l a w
  | [], σ, a, w, m, R, H, hq => by
    obtain ⟨σ', k, H⟩ := H
    exact hq σ' a w m H (R.wk k)
  | o :: rest, σ0, a, w, m, R0, H, hq => by
    obtain ⟨σ, k, hd, H⟩ := H
    have R := R0.wk k
    have yes : pop P W0 σ o (fun r h => pops P W0 n ops N rest (St.put ⟨σ.env, h⟩ o.dst r)) → Region.wanted o (yielded ops a.tmps) = true → wpList P ops Q (o :: rest) a w := by
      intro hk hw
      refine wpList_step fun K hK => ?_
      rw [if_pos hw]
      refine (pop_ok R hk).wp ?_
      rintro v w' ⟨r, h', m', h1, h2, h3, h4⟩
      exact hK _ _ (pops_ok rest _ _ _ _ (R.step h3 h4 h2 hd) h1 hq)
    have no : pops P W0 n ops N rest (σ.put o.dst (.tup [])) → Region.wanted o (yielded ops a.tmps) = false → wpList P ops Q (o :: rest) a w := by
      intro hk hw
      refine wpList_step fun K hK => ?_
      rw [if_neg (by simp [hw])]
      exact hK _ _ (pops_ok rest _ _ _ _ (R.step (h' := σ.hp) R.hr (Ext.refl _ _ _) (LR.undef _ _ _) hd) hk hq)
    unfold wantP at H
    split at H
    · rename_i hg
      exact yes H (by simp [Region.wanted, hg])
    · rename_i j want hg
      split at H
      · rename_i hn
        exact no H (by simp [Region.wanted, hg, yielded, hn])
      · rename_i d hs
        have hy : ∀ v, a.tmps.getD d undef = v → yielded ops a.tmps j = (match v with | .bool b => some b | _ => none) := by
          intro v hv
          simp only [yielded, hs, Option.bind_some]
          rw [Array.getD_eq_getD_getElem?] at hv
          cases hc : a.tmps[d]? with
          | none => rw [hc] at hv; simp only [Option.getD_none] at hv; subst hv; rfl
          | some u =>
            rw [hc] at hv
            simp only [Option.getD_some] at hv
            subst hv
            cases u <;> rfl
        have he := R.env d
        split at H
        · rename_i b e
          rw [e] at he
          have hb : a.tmps.getD d undef = .bool b := by generalize a.tmps.getD d undef = q at he; cases he; rfl
          have hy' := hy _ hb
          by_cases hbw : b = want
          · exact yes (H.1 hbw) (by simp [Region.wanted, hg, hy', hbw])
          · exact no (H.2 hbw) (by simp [Region.wanted, hg, hy', hbw])
        · rename_i e
          rw [e] at he
          have hb : a.tmps.getD d undef = .tuple #[] := by
            obtain ⟨vs, hv, hl, _⟩ := he
            rw [hv]
            rw [List.eq_nil_of_length_eq_zero hl]
          exact no H (by simp [Region.wanted, hg, hy _ hb])
        · exact H.elim

theorem pwp_region {id : Nat} {l : List Oper} (H : pops P W0 n l.toArray (K .normal) l σ) : PWP P W0 n (.region id l.toArray false) K σ := by
  intro we he me a w m R
  exact wp_region_lit (pops_ok l σ a w m R H fun σ a w m hn hr => ⟨σ, m, hn, hr⟩)

end
end Go.Pw
