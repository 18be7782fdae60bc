/- Own work: part of the proof of the row YtlghclplgbijjaaDoorRowFilterChecksUpto; no condition of its own. -/
import Derived.Test.YtlghclplgbijjaaDoorGlobN
import Derived.Test.YtlghclplgbijjaaDoorPwV
import Derived.Test.YtlghclplgbijjaaDoorGFacts
namespace Go.Pw
open Go Go.RowKit Go.Proofs
set_option maxRecDepth 100000
set_option linter.unusedSimpArgs false
set_option linter.unusedVariables false
section
variable {n : Nat}
theorem one_of {t e : TypeId} {p : List PV} (ht : Tryd.prog.underlying t = some (.slice e)) (hp : TyOK Tryd.prog n t p) : ∃ q, p = [q] := by
  cases n with
  | zero => rw [TyOK] at hp; exact hp.elim
  | succ n =>
    rw [tyOK_succ, ht] at hp
    obtain ⟨xs, e, _⟩ := hp
    exact ⟨_, e⟩
theorem row_of {t e : TypeId} {p : List PV} (ht : Tryd.prog.underlying t = some (.slice e)) (hp : TyOK Tryd.prog n t p) : ∃ m xs, n = m + 1 ∧ p = [.ro false (Tryd.prog.cellsOf e) xs] ∧ xs.length ≤ maxLen ∧ ∀ es ∈ xs, TyOK Tryd.prog m e es := by
  cases n with
  | zero => rw [TyOK] at hp; exact hp.elim
  | succ n =>
    rw [tyOK_succ, ht] at hp
    obtain ⟨xs, e, hl, hx⟩ := hp
    exact ⟨n, xs, rfl, e, hl, hx⟩
theorem int_of {t : TypeId} {p : List PV} (ht : Tryd.prog.underlying t = some (.int .i64)) (hp : TyOK Tryd.prog n t p) : ∃ z, p = [pint z] ∧ (Lit.int .i64 z).wf = true := by
  cases n with
  | zero => rw [TyOK] at hp; exact hp.elim
  | succ n => rw [tyOK_succ, ht] at hp; exact hp
theorem bool_of {t : TypeId} {p : List PV} (ht : Tryd.prog.underlying t = some .bool) (hp : TyOK Tryd.prog n t p) : ∃ b, p = [pbool b] := by
  cases n with
  | zero => rw [TyOK] at hp; exact hp.elim
  | succ n => rw [tyOK_succ, ht] at hp; exact hp
theorem str_of {t : TypeId} {p : List PV} (ht : Tryd.prog.underlying t = some .string) (hp : TyOK Tryd.prog n t p) : ∃ l, p = [pstr l] := by
  cases n with
  | zero => rw [TyOK] at hp; exact hp.elim
  | succ n => rw [tyOK_succ, ht] at hp; obtain ⟨l, e, _⟩ := hp; exact ⟨l, e⟩
theorem fields_of {t : TypeId} {fs : List Field} {p : List PV} (ht : Tryd.prog.underlying t = some (.struct fs.toArray)) (hp : TyOK Tryd.prog n t p) : ∃ m parts, n = m + 1 ∧ p = parts.flatten ∧ TyFs Tryd.prog m fs parts := by
  cases n with
  | zero => rw [TyOK] at hp; exact hp.elim
  | succ n => rw [tyOK_succ, ht] at hp; obtain ⟨ps, e, h⟩ := hp; exact ⟨n, ps, rfl, e, h⟩
end
theorem tyOK_pair {n : Nat} {p : List PV} (hp : TyOK Tryd.prog n 67 p) : ∃ x : Int × Int, p = [pint x.1, pint x.2] ∧ True := by
  cases n with
  | zero => rw [TyOK] at hp; exact hp.elim
  | succ n =>
    rw [tyOK_succ, Tryd.underlying67] at hp
    obtain ⟨parts, rfl, hl, h⟩ := hp
    match parts, hl with
    | [a, b], _ =>
      obtain ⟨x, rfl, _⟩ := int_of Tryd.underlying3 (h a (by simp))
      obtain ⟨y, rfl, _⟩ := int_of Tryd.underlying3 (h b (by simp))
      exact ⟨(x, y), rfl, trivial⟩
theorem tyOK_part : ∀ (n : Nat) (p : List PV), TyOK Tryd.prog n 64 p → ∃ g : GPart, p = encG g ∧ True
  | 0, p, h => by rw [TyOK] at h; exact h.elim
  | n + 1, p, h => by
    obtain ⟨m, parts, e, rfl, hh⟩ := fields_of Tryd.underlying64 h
    obtain rfl : n = m := by omega
    simp only [tyFs_cons, tyFs_nil] at hh
    obtain ⟨p1, r1, rfl, h1, p2, r2, rfl, h2, p3, r3, rfl, h3, p4, r4, rfl, h4, p5, r5, rfl, h5, rfl⟩ := hh
    obtain ⟨k, rfl, _⟩ := int_of Tryd.underlying3 h1
    obtain ⟨t, rfl⟩ := str_of Tryd.underlying9 h2
    obtain ⟨b, rfl⟩ := bool_of Tryd.underlying4 h3
    obtain ⟨m4, xs4, e4, rfl, _, h4⟩ := row_of Tryd.underlying61 h4
    obtain ⟨m5, xs5, e5, rfl, _, h5⟩ := row_of Tryd.underlying62 h5
    obtain ⟨rs, rfl, _⟩ := map_of_all (f := fun x : Int × Int => [pint x.1, pint x.2]) (Q := fun _ => True) xs4 fun es hes => tyOK_pair (h4 es hes)
    obtain ⟨ws, rfl, _⟩ := map_of_all (f := fun l : List GPart => [PV.ro false 5 (encL l)]) (Q := fun _ => True) xs5 fun es hes => by
      obtain ⟨m6, xs6, e6, rfl, _, h6⟩ := row_of Tryd.underlying22 (h5 es hes)
      obtain ⟨ls, rfl, _⟩ := map_of_all (f := encG) (Q := fun _ => True) xs6 fun es' hes' => tyOK_part m6 es' (h6 es' hes')
      exact ⟨ls, by rw [encL_map, show Tryd.prog.cellsOf 64 = 5 by kernel_rfl], trivial⟩
    refine ⟨.mk k t b rs ws, ?_, trivial⟩
    rw [encG, encW_map, show Tryd.prog.cellsOf 67 = 2 by kernel_rfl, show Tryd.prog.cellsOf 22 = 1 by kernel_rfl]
    rfl
  termination_by n => n
theorem tyOK_parts {n : Nat} {p : List PV} (h : TyOK Tryd.prog n 22 p) : ∃ l : List GPart, p = [.ro false 5 (encL l)] := by
  obtain ⟨m6, xs6, e6, rfl, _, h6⟩ := row_of Tryd.underlying22 h
  obtain ⟨ls, rfl, _⟩ := map_of_all (f := encG) (Q := fun _ => True) xs6 fun es' hes' => tyOK_part m6 es' (h6 es' hes')
  exact ⟨ls, by rw [encL_map, show Tryd.prog.cellsOf 64 = 5 by kernel_rfl]⟩
theorem tyOK_glob {n : Nat} {p : List PV} (h : TyOK Tryd.prog n 24 p) : ∃ (ro di : Bool) (l : List GPart), p = [pbool ro, pbool di, .ro false 5 (encL l)] := by
  obtain ⟨m, parts, e, rfl, hh⟩ := fields_of Tryd.underlying24 h
  simp only [tyFs_cons, tyFs_nil] at hh
  obtain ⟨p1, r1, rfl, h1, p2, r2, rfl, h2, p3, r3, rfl, h3, rfl⟩ := hh
  obtain ⟨a, rfl⟩ := bool_of Tryd.underlying4 h1
  obtain ⟨b, rfl⟩ := bool_of Tryd.underlying4 h2
  obtain ⟨l, rfl⟩ := tyOK_parts h3
  exact ⟨a, b, l, rfl⟩
theorem tyOK_rule {n : Nat} {p : List PV} (h : TyOK Tryd.prog n 56 p) : ∃ r : RuleG, p = rulePV r ∧ True := by
  obtain ⟨m, parts, e, rfl, hh⟩ := fields_of Tryd.underlying56 h
  simp only [tyFs_cons, tyFs_nil] at hh
  obtain ⟨p1, r1, rfl, h1, p2, r2, rfl, h2, rfl⟩ := hh
  obtain ⟨a, rfl⟩ := bool_of Tryd.underlying4 h1
  obtain ⟨b, c, l, rfl⟩ := tyOK_glob h2
  exact ⟨⟨a, b, c, l⟩, rfl, trivial⟩
theorem argOK_filt {s : SV} (h : ArgOKR Tryd.prog 36 s) : ∃ f : FiltG, s = .agg (filtPV f) := by
  cases s with
  | one p => have := h.2; rw [Tryd.underlying36] at this; exact this.elim
  | agg ps =>
    obtain ⟨⟨n, h⟩, _⟩ := h
    obtain ⟨m, parts, e, rfl, hh⟩ := fields_of Tryd.underlying36 h
    simp only [tyFs_cons, tyFs_nil] at hh
    obtain ⟨p1, r1, rfl, h1, p2, r2, rfl, h2, p3, r3, rfl, h3, p4, r4, rfl, h4, p5, r5, rfl, h5, p6, r6, rfl, h6, rfl⟩ := hh
    obtain ⟨m1, xs1, e1, rfl, _, h1⟩ := row_of Tryd.underlying34 h1
    obtain ⟨rs, rfl, _⟩ := map_of_all (f := rulePV) (Q := fun _ => True) xs1 fun es hes => tyOK_rule (h1 es hes)
    obtain ⟨z2, rfl, _⟩ := int_of Tryd.underlying3 h2
    obtain ⟨z3, rfl, _⟩ := int_of Tryd.underlying3 h3
    obtain ⟨z4, rfl, _⟩ := int_of Tryd.underlying3 h4
    obtain ⟨z5, rfl, _⟩ := int_of Tryd.underlying3 h5
    obtain ⟨z6, rfl, _⟩ := int_of Tryd.underlying3 h6
    refine ⟨⟨rs, z2, z3, z4, z5, z6⟩, ?_⟩
    rw [show Tryd.prog.cellsOf 56 = 4 by kernel_rfl]
    rfl
theorem argOK_info {s : SV} (h : ArgOKR Tryd.prog 40 s) : ∃ x : InfG, s = .agg (infPV x) := by
  cases s with
  | one p => have := h.2; rw [Tryd.underlying40] at this; exact this.elim
  | agg ps =>
    obtain ⟨⟨n, h⟩, _⟩ := h
    obtain ⟨m, parts, e, rfl, hh⟩ := fields_of Tryd.underlying40 h
    simp only [tyFs_cons, tyFs_nil] at hh
    obtain ⟨p1, r1, rfl, h1, p2, r2, rfl, h2, p3, r3, rfl, h3, p4, r4, rfl, h4, p5, r5, rfl, h5, p6, r6, rfl, h6, p7, r7, rfl, h7, rfl⟩ := hh
    obtain ⟨a, rfl⟩ := str_of Tryd.underlying9 h1
    obtain ⟨b, rfl⟩ := bool_of Tryd.underlying4 h2
    obtain ⟨c, rfl, _⟩ := int_of Tryd.underlying3 h3
    obtain ⟨d, rfl, _⟩ := int_of Tryd.underlying3 h4
    obtain ⟨q5, rfl⟩ := one_of Tryd.underlying37 h5
    obtain ⟨q6, rfl⟩ := one_of Tryd.underlying38 h6
    obtain ⟨g, rfl⟩ := str_of Tryd.underlying9 h7
    exact ⟨⟨a, b, c, d, q5, q6, g⟩, rfl⟩
theorem argOK_i64 {t : TypeId} {s : SV} (ht : Tryd.prog.underlying t = some (.int .i64)) (h : ArgOKR Tryd.prog t s) : ∃ z, s = .one (pint z) ∧ (Lit.int .i64 z).wf = true := by
  cases s with
  | one p => obtain ⟨⟨n, h⟩, _⟩ := h; obtain ⟨z, e, hw⟩ := int_of ht h; exact ⟨z, by simp only [List.cons.injEq, and_true] at e; rw [e], hw⟩
  | agg ps => have := h.2; rw [ht] at this; exact this.elim
theorem rules_bulk : ∀ (l : List RuleG), l.length ≤ pvWss (l.map rulePV) ∧ ∀ r ∈ l, lW r.parts ≤ pvWss (l.map rulePV)
  | [] => ⟨Nat.le_refl _, fun r h => by cases h⟩
  | r :: l => by
    obtain ⟨h1, h2⟩ := rules_bulk l
    have e : pvWss ((r :: l).map rulePV) = (1 + (1 + (1 + ((lW r.parts + 1) + 0)))) + pvWss (l.map rulePV) := by
      rw [List.map_cons, pvWss]
      simp only [pvWs, pvW, lW]
    refine ⟨by rw [e, List.length_cons]; omega, fun x hx => ?_⟩
    rcases List.mem_cons.1 hx with rfl | hx
    · rw [e]; omega
    · have := h2 x hx
      rw [e]; omega
theorem filt_bulk {f : FiltG} {s : Nat} (h : svW (.agg (filtPV f)) + s ≤ 1048576) : (∀ r ∈ f.rules, lW r.parts ≤ 1048576) ∧ f.rules.length ≤ 1048576 := by
  obtain ⟨h1, h2⟩ := rules_bulk f.rules
  simp only [svW, pvWs, pvW] at h
  exact ⟨fun r hr => by have := h2 r hr; omega, by omega⟩
end Go.Pw
