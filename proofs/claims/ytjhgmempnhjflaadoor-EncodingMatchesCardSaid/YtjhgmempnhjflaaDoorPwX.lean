/-
  PW, part X: from a walk to a row's own words.
-/
import Derived.Test.YtjhgmempnhjflaaDoorPwU
import Derived.Carry
import Derived.OpenVars
import Derived.ProofKit
namespace Go.Pw
open Go Go.RowKit Go.ChangeShapes

section
variable {H : Type} {enc : TypeId × Value → H} {P : Program}

def rowed (P : Program) (ts : List TypeId) : Bool := ts.all fun t => P.readableRec t && decide (t < P.types.size)

theorem trodAll_below (hl : laidOutB P = true) {W W' : World} (hb : Below W.heap.size W W') : ∀ {ts : List TypeId} {vs : List Value} {ds : List (DataW H)} {ps : List MemPlace}, rowed P ts = true →
    DataW.TrodAll enc P W 0 (fun _ => true) true ts vs ds ps → (∀ x ∈ ps, x.block < W.heap.size) → DataW.TrodAll enc P W' 0 (fun b => decide (b < W.heap.size)) true ts vs ds ps
  | [], [], [], _, _, h, _ => h
  | t :: ts, v :: vs, d :: ds, ps, hr, h, hlt => by
    simp only [rowed, List.all_cons, Bool.and_eq_true, decide_eq_true_eq] at hr
    obtain ⟨p, q, h1, h2, rfl⟩ := h
    exact ⟨p, q, Below.trod hl hr.1.1 hr.1.2 h1 hb (fun x hx => hlt x (by simp [hx])), trodAll_below hl hb (by simpa [rowed] using hr.2) h2 (fun x hx => hlt x (by simp [hx])), rfl⟩
  | [], _ :: _, _, _, _, h, _ => h.elim
  | [], [], _ :: _, _, _, h, _ => h.elim
  | _ :: _, [], _, _, _, h, _ => h.elim
  | _ :: _, _ :: _, [], _, _, h, _ => h.elim

theorem law_post {fn : Func} {S : ChangeSpec} {tb : TypeId} {fresh handsOn : Bool} {W W' : World} {args : Array Value} {ds gs : List (DataW H)} {before : List MemPlace} (hl : laidOutB P = true) (hp : rowed P fn.params.toList = true) (hv : varsRowed P S.vars = true)
    (hres : fn.resultTypes = #[tb]) (htb : P.underlying tb = some .bool) (hW : DataW.Whole enc P fn.params.toList S.vars false W args.toList ds gs before)
    (hS : S.fn H (ds ++ gs) = { results := [.lit (.bool true)], args := ds, vars := gs }) (hb : Below W.heap.size W W') : S.post enc P fn false fresh handsOn false W args (.bool true) W' := by
  have hlt := hW.lt
  obtain ⟨p, q, hA, hV, rfl, _, _⟩ := hW
  refine ⟨ds, gs, p ++ q, [], p, q, ⟨p, q, hA, hV, rfl, by assumption, by assumption⟩, ?_, ?_, ?_, ?_, fun h => by cases h⟩
  · rw [hres, hS]
    exact trodAll_mk1 (shut_bool htb _)
  · rw [hS]
    exact trodAll_below hl hb hp hA (fun x hx => hlt x (by simp [hx]))
  · rw [hS]
    exact Below.trodVars hl hb hv hV
  · exact hb.frame _

/-- A law's contract, out of its walk. -/
theorem law_contract {bk : DataW H → Nat} {bks : List (DataW H) → Nat} (hbk : BulkLaw bk bks) {f : FuncId} {fn : Func} {S : ChangeSpec} {tb : TypeId} {fresh handsOn : Bool} {W : World} {base : Nat} {args : Array Value} {ds gs : List (DataW H)} {before : List MemPlace}
    (hl : laidOutB P = true) (hp : rowed P fn.params.toList = true) (hg : fn.params.toList.all (argGood P) = true) (hv : varsRowed P S.vars = true) (hres : fn.resultTypes = #[tb]) (htb : P.underlying tb = some .bool)
    (hval : ∀ (j : Nat) t v, fn.params[j]? = some t → args[j]? = some v → Value.okWide P W .any base t v)
    (hW : DataW.Whole enc P fn.params.toList S.vars false W args.toList ds gs before)
    (hS : ds.length = fn.params.size → gs.length = S.vars.length → S.fn H (ds ++ gs) = { results := [.lit (.bool true)], args := ds, vars := gs })
    (walk : ∀ svs, ArgsOK P fn.params.toList svs → (svs.map svW).sum ≤ bks ds → PFun P W f svs (.sv (.one (pbool true)))) :
    Calls P f args W fun e W' => ∃ v, e = .returned v ∧ S.post enc P fn false fresh handsOn false W args v W' := by
  have hW0 := hW
  obtain ⟨p, q, hA, hV, rfl, _, _⟩ := hW
  obtain ⟨svs, a1, a2, a3, a4⟩ := open_args hbk hg hA fun j t v h1 h2 => hval j t v (by simpa using h1) (by simpa using h2)
  have hd : ds.length = fn.params.size := by
    have : ∀ {ts : List TypeId} {vs : List Value} {ds : List (DataW H)} {ps : List MemPlace}, DataW.TrodAll enc P W 0 (fun _ => true) true ts vs ds ps → ds.length = ts.length := by
      intro ts
      induction ts with
      | nil => intro vs ds ps h; cases vs <;> cases ds <;> first | rfl | exact h.elim
      | cons t ts ih => intro vs ds ps h; cases vs <;> cases ds <;> first | exact h.elim | (obtain ⟨_, _, _, h2, _⟩ := h; simp [ih h2])
    simpa using this hA
  have hgl : gs.length = S.vars.length := by
    have : ∀ {ns : List String} {ds : List (DataW H)} {ps : List MemPlace}, DataW.TrodVars enc P W (fun _ => true) ns ds ps → ds.length = ns.length := by
      intro ns
      induction ns with
      | nil => intro ds ps h; cases ds <;> first | rfl | exact h.elim
      | cons t ts ih => intro ds ps h; cases ds <;> first | exact h.elim | (obtain ⟨_, _, _, _, _, _, _, _, _, _, h2, _⟩ := h; simp [ih h2])
    exact this hV
  have := law_calls (walk svs a1 a4) a2 a3
  rw [show args.toList.toArray = args from by simp] at this
  refine this.mono ?_
  rintro e W' ⟨rfl, hb⟩
  exact ⟨_, rfl, law_post hl hp hv hres htb hW0 (hS hd hgl) hb⟩

theorem argOK_int {t : TypeId} {k : IntKind} {s : SV} (ht : P.underlying t = some (.int k)) (h : ArgOK P t s) : ∃ z, s = .one (.val (.int k z)) ∧ (Lit.int k z).wf = true := by
  cases s with
  | one p =>
    obtain ⟨h, _⟩ := h
    rw [tyOK_succ, ht] at h
    obtain ⟨z, e, hz⟩ := h
    simp only [List.cons.injEq, and_true] at e
    exact ⟨z, by rw [e], hz⟩
  | agg ps => have := h.2; rw [ht] at this; exact this.elim

theorem argOK_bool {t : TypeId} {s : SV} (ht : P.underlying t = some .bool) (h : ArgOK P t s) : ∃ b, s = .one (pbool b) := by
  cases s with
  | one p =>
    obtain ⟨h, _⟩ := h
    rw [tyOK_succ, ht] at h
    obtain ⟨z, e⟩ := h
    simp only [List.cons.injEq, and_true] at e
    exact ⟨z, by rw [e]⟩
  | agg ps => have := h.2; rw [ht] at this; exact this.elim

theorem argOK_str {t : TypeId} {s : SV} (ht : P.underlying t = some .string) (h : ArgOK P t s) : ∃ l : List UInt8, s = .one (pstr l) ∧ l.length ≤ maxLen := by
  cases s with
  | one p =>
    obtain ⟨h, _⟩ := h
    rw [tyOK_succ, ht] at h
    obtain ⟨z, e, hz⟩ := h
    simp only [List.cons.injEq, and_true] at e
    exact ⟨z, by rw [e], hz⟩
  | agg ps => have := h.2; rw [ht] at this; exact this.elim

theorem tyOK_row {n : Nat} {t e : TypeId} {p : PV} (ht : P.underlying t = some (.slice e)) (h : TyOK P (n + 1) t [p]) : ∃ xs, p = .ro false (P.cellsOf e) xs ∧ xs.length ≤ maxLen ∧ ∀ es ∈ xs, TyOK P n e es := by
  rw [tyOK_succ, ht] at h
  obtain ⟨xs, h1, h2, h3⟩ := h
  simp only [List.cons.injEq, and_true] at h1
  exact ⟨xs, h1, h2, h3⟩

theorem map_of_all {α : Type} {β : Type} {f : β → α} {Q : β → Prop} : ∀ (xs : List α), (∀ x ∈ xs, ∃ y, x = f y ∧ Q y) → ∃ ys : List β, xs = ys.map f ∧ ∀ y ∈ ys, Q y
  | [], _ => ⟨[], rfl, by simp⟩
  | x :: xs, h => by
    obtain ⟨y, rfl, hq⟩ := h x (by simp)
    obtain ⟨ys, rfl, hqs⟩ := map_of_all xs fun z hz => h z (by simp [hz])
    exact ⟨y :: ys, rfl, by simpa using ⟨hq, hqs⟩⟩

theorem tyOK_ints {n : Nat} {t e : TypeId} {k : IntKind} {p : PV} (ht : P.underlying t = some (.slice e)) (he : P.underlying e = some (.int k)) (hc : P.cellsOf e = 1) (h : TyOK P (n + 2) t [p]) :
    ∃ zs : List Int, p = .ro false 1 (zs.map fun z => [.val (.int k z)]) ∧ zs.length ≤ maxLen ∧ ∀ z ∈ zs, (Lit.int k z).wf = true := by
  obtain ⟨xs, rfl, hl, hx⟩ := tyOK_row ht h
  obtain ⟨zs, rfl, hz⟩ := map_of_all (f := fun z : Int => [PV.val (.int k z)]) (Q := fun z => (Lit.int k z).wf = true) xs fun es hes => by
    have := hx es hes
    rw [tyOK_succ, he] at this
    exact this
  exact ⟨zs, by rw [hc], by simpa using hl, hz⟩

theorem tyOK_strs {n : Nat} {t e : TypeId} {p : PV} (ht : P.underlying t = some (.slice e)) (he : P.underlying e = some .string) (hc : P.cellsOf e = 1) (h : TyOK P (n + 2) t [p]) :
    ∃ xs : List (List UInt8), p = .ro false 1 (pstrs xs) ∧ xs.length ≤ maxLen ∧ ∀ x ∈ xs, x.length ≤ maxLen := by
  obtain ⟨xs, rfl, hl, hx⟩ := tyOK_row ht h
  obtain ⟨zs, rfl, hz⟩ := map_of_all (f := fun z : List UInt8 => [pstr z]) (Q := fun z => z.length ≤ maxLen) xs fun es hes => by
    have := hx es hes
    rw [tyOK_succ, he] at this
    exact this
  exact ⟨zs, by rw [hc], by simpa using hl, hz⟩

theorem argOK_row {t e : TypeId} {s : SV} (ht : P.underlying t = some (.slice e)) (h : ArgOK P t s) : ∃ p, s = .one p ∧ TyOK P 12 t [p] := by
  cases s with
  | one p => exact ⟨p, rfl, h.1⟩
  | agg ps => have := h.2; rw [ht] at this; exact this.elim

end
end Go.Pw
