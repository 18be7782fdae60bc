/-
  PW, part R: contracts of the library, told over the pure state.
-/
import Derived.Test.YtjhgmempnhjflaaDoorPwQ
namespace Go.Pw
open Go Go.RowKit

section
variable {P : Program} {W0 : World} {f : FuncId}

/-- A function that is there. -/
def Has (P : Program) (f : FuncId) : Prop := ∃ fn, P.funcs[f]? = some fn ∧ fn.body.isSome = true ∧ (fn.name == "runtime.NumGoroutine") = false

theorem svr_vals {w : World} {h : Hp} {m : Loc} : ∀ {vals vs : List Value}, vs.length = (vals.map fun v => SV.one (.val v)).length →
    (∀ (j : Nat) (s : SV) (v : Value), (vals.map fun v => SV.one (.val v))[j]? = some s → vs[j]? = some v → SVR w h m s v) → vs = vals := by
  intro vals vs hl hv
  apply List.ext_getElem?
  intro j
  rcases Nat.lt_or_ge j vals.length with hj | hj
  · have h2 : j < vs.length := by simp at hl; omega
    have := hv j (.one (.val vals[j])) vs[j] (by simp [hj]) (List.getElem?_eq_getElem h2)
    rw [List.getElem?_eq_getElem h2, List.getElem?_eq_getElem hj]
    generalize vs[j] = q at this ⊢
    cases this
    rfl
  · rw [List.getElem?_eq_none hj, List.getElem?_eq_none (by simp at hl; omega)]

theorem pfun_below (hf : Has P f) {vals : List Value} {r : Value} (hr : r.oneCell' = true) (H : ∀ w, Below W0.heap.size W0 w → Calls P f vals.toArray w fun e w' => e = .returned r ∧ Below w.heap.size w w') :
    PFun P W0 f (vals.map fun v => .one (.val v)) (.sv (.one (.val r))) := by
  refine fun h => ⟨hf, fun w m vs R hl hv => ?_⟩
  obtain rfl := svr_vals hl hv
  refine (H w R.below).mono ?_
  rintro e w' ⟨rfl, hb⟩
  exact ⟨r, _, h, m, rfl, ⟨rfl, .refl _⟩, .val _ hr, R.grow hb, Ext.grow hb⟩

theorem Below.refl' (w : World) : Below w.heap.size w w := ⟨rfl, rfl, rfl, Nat.le_refl _, fun _ _ => rfl⟩

theorem pfun_same (hf : Has P f) {vals : List Value} {r : Value} (hr : r.oneCell' = true) (H : ∀ w, Below W0.heap.size W0 w → Calls P f vals.toArray w fun e w' => e = .returned r ∧ w' = w) :
    PFun P W0 f (vals.map fun v => .one (.val v)) (.sv (.one (.val r))) :=
  pfun_below hf hr fun w hb => (H w hb).mono fun _ _ ⟨a, b⟩ => ⟨a, b ▸ Below.refl' w⟩

theorem cell_below {w : World} (hb : Below W0.heap.size W0 w) {a : Addr} {v : Value} (h : W0.cell? a = some v) : w.cell? a = some v := by
  rw [hb.cell (block_lt_of_cell h)]; exact h

abbrev pstrs (xs : List (List UInt8)) : List (List PV) := xs.map fun x => [pstr x]

theorem alloc_heap (w : World) (o : Obj) : (w.alloc o).heap = w.heap.push o := rfl

/-- A new row of strings that nobody else holds. -/
theorem lr_newstrs {w : World} {h : Hp} {m : Loc} (R : HR W0 w h m) (xs : List (List UInt8)) (ty : TypeId) {n : Nat} (hn : xs.length = n) :
    LR (w.alloc (.cells (xs.map fun x => Value.string ⟨x.toArray⟩).toArray ty)) h m (.sv (.one (.ro true 1 (pstrs xs)))) (.slice (some ⟨w.heap.size, 0, none⟩) n n) := by
  subst hn
  refine .ro true 1 (pstrs xs) w.heap.size 0 xs.length xs.length (fun i _ => .string ⟨(xs.getD i []).toArray⟩) (by simp) (fun _ => rfl) (Nat.le_refl _) (by rw [alloc_heap]; simp) ?_ ?_ ?_ ?_
  · intro id b hb e
    have := (R.live id b hb).lt
    omega
  · intro i es hi
    simp only [List.getElem?_map] at hi
    obtain ⟨x, _, rfl⟩ := Option.map_eq_some_iff.1 hi
    rfl
  · intro i es j p hi hj
    simp only [List.getElem?_map] at hi
    obtain ⟨x, hx, rfl⟩ := Option.map_eq_some_iff.1 hi
    cases j with
    | zero =>
      have hlt := (List.getElem?_eq_some_iff.1 hx).1
      have he := (List.getElem?_eq_some_iff.1 hx).2
      simp [World.cell?, alloc_heap, hx]
    | succ j => simp at hj
  · intro i es j p hi hj
    simp only [List.getElem?_map] at hi
    obtain ⟨x, hx, rfl⟩ := Option.map_eq_some_iff.1 hi
    cases j with
    | zero =>
      simp only [List.getElem?_cons_zero, Option.some.injEq] at hj
      subst hj
      have : xs.getD i [] = x := by simp [List.getD, hx]
      rw [this]
      exact .val _ rfl
    | succ j => simp at hj

theorem below_alloc (w : World) (o : Obj) : Below w.heap.size w (w.alloc o) :=
  ⟨rfl, rfl, rfl, by rw [alloc_heap]; simp, fun k hk => by rw [alloc_heap]; simp [Array.getElem?_push, Nat.ne_of_lt hk]⟩

/-- A function that makes a new row of strings. -/
theorem pfun_newstrs (hf : Has P f) {vals : List Value} {xs : List (List UInt8)} {n : Nat} {ty : TypeId} (hn : xs.length = n)
    (H : ∀ w, Below W0.heap.size W0 w → Calls P f vals.toArray w fun e w' => e = .returned (.slice (some ⟨w.heap.size, 0, none⟩) n n) ∧ w' = w.alloc (.cells (xs.map fun x => Value.string ⟨x.toArray⟩).toArray ty)) :
    PFun P W0 f (vals.map fun v => .one (.val v)) (.sv (.one (.ro true 1 (pstrs xs)))) := by
  refine fun h => ⟨hf, fun w m vs R hl hv => ?_⟩
  obtain rfl := svr_vals hl hv
  refine (H w R.below).mono ?_
  rintro e w' ⟨rfl, rfl⟩
  exact ⟨_, _, h, m, rfl, ⟨rfl, .refl _⟩, lr_newstrs R xs ty hn, R.grow (below_alloc w _), Ext.grow (below_alloc w _)⟩

/-- What a row of strings that is only read is in the model. -/
theorem vr_strs {w : World} {h : Hp} {m : Loc} {full : Bool} {xs : List (List UInt8)} {v : Value} (H : VR w h m (.ro full 1 (pstrs xs)) v) :
    (xs = [] ∧ ∃ a c, v = .slice a 0 c) ∨ ∃ g off c, v = .slice (some ⟨g, off, none⟩) xs.length c ∧ g < w.heap.size ∧ xs.length ≤ c ∧ ∀ (j : Nat) x, xs[j]? = some x → w.cell? ⟨g, off + j, none⟩ = some (.string ⟨x.toArray⟩) := by
  generalize hp : pstrs xs = ps at H
  cases H with
  | ro0 _ _ a c hc =>
    have : xs = [] := by simpa [pstrs] using hp
    exact .inl ⟨this, a, c, rfl⟩
  | ro _ _ _ g off c n vs hn hc hnc hg hav hlen hcell hvs =>
    subst hp
    obtain rfl : xs.length = n := by simpa using hn
    refine .inr ⟨g, off, c, rfl, hg, hnc, fun j x hx => ?_⟩
    have h1 : (pstrs xs)[j]? = some [pstr x] := by simp [pstrs, hx]
    have h2 := hcell j _ 0 _ h1 rfl
    have h3 := hvs j _ 0 _ h1 rfl
    generalize vs j 0 = q at h2 h3
    cases h3
    simpa using h2

end
end Go.Pw
