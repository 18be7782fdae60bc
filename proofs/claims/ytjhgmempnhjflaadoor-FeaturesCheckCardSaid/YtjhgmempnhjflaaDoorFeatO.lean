import Derived.Test.YtjhgmempnhjflaaDoorFeatC
import Derived.Test.YtjhgmempnhjflaaDoorPwV
namespace Go.Pw
open Go Go.RowKit Go.Proofs
set_option maxRecDepth 100000
set_option linter.unusedSimpArgs false
set_option linter.unusedVariables false
theorem argOK_feat {s : SV} (h : ArgOK Tryd.prog 39 s) : ∃ x : Feat, s = .agg (featPV x) ∧ x.forbid.length ≤ 9223372036854775807 ∧ inI64 x.sums := by
  have hmax : maxLen = 9223372036854775807 := by kernel_rfl
  cases s with
  | one p => have := h.2; rw [Tryd.underlying39] at this; exact this.elim
  | agg ps =>
    obtain ⟨h, _⟩ := h
    rw [tyOK_succ, Tryd.underlying39] at h
    obtain ⟨parts, rfl, h⟩ := h
    simp only [tyFs_cons, tyFs_nil] at h
    obtain ⟨p1, r1, rfl, h1, p2, r2, rfl, h2, p3, r3, rfl, h3, p4, r4, rfl, h4, p5, r5, rfl, h5, p6, r6, rfl, h6, p7, r7, rfl, h7, p8, r8, rfl, h8, p9, r9, rfl, h9, rfl⟩ := h
    rw [tyOK_succ, Tryd.underlying3] at h1 h2 h3 h4 h5 h6 h7 h8
    rw [tyOK_succ, Tryd.underlying9] at h9
    obtain ⟨z1, rfl, _⟩ := h1
    obtain ⟨z2, rfl, w2⟩ := h2
    obtain ⟨z3, rfl, _⟩ := h3
    obtain ⟨z4, rfl, _⟩ := h4
    obtain ⟨z5, rfl, _⟩ := h5
    obtain ⟨z6, rfl, _⟩ := h6
    obtain ⟨z7, rfl, _⟩ := h7
    obtain ⟨z8, rfl, _⟩ := h8
    obtain ⟨l9, rfl, m9⟩ := h9
    exact ⟨⟨z1, z2, z3, z4, z5, z6, z7, z8, l9⟩, rfl, by show l9.length ≤ _; omega, inI64_wf w2⟩
theorem tyOK_fault {n : Nat} {ps : List PV} (h : TyOK Tryd.prog (n + 2) 81 ps) : ∃ f : Fault, ps = faultPV f := by
  rw [tyOK_succ, Tryd.underlying81] at h
  obtain ⟨parts, rfl, h⟩ := h
  simp only [tyFs_cons, tyFs_nil] at h
  obtain ⟨p1, r1, rfl, h1, p2, r2, rfl, h2, p3, r3, rfl, h3, p4, r4, rfl, h4, rfl⟩ := h
  rw [tyOK_succ, Tryd.underlying3] at h1 h2 h4
  rw [tyOK_succ, Tryd.underlying31] at h3
  obtain ⟨z1, rfl, _⟩ := h1
  obtain ⟨z2, rfl, _⟩ := h2
  obtain ⟨z3, rfl, _⟩ := h3
  obtain ⟨z4, rfl, _⟩ := h4
  exact ⟨⟨z1, z2, z3, z4⟩, rfl⟩
theorem argOK_faults {s : SV} (h : ArgOK Tryd.prog 40 s) : ∃ l : List Fault, s = .one (.ro false 4 (l.map faultPV)) ∧ l.length ≤ 9223372036854775807 := by
  have hmax : maxLen = 9223372036854775807 := by kernel_rfl
  obtain ⟨p, rfl, hp⟩ := argOK_row Tryd.underlying40 h
  obtain ⟨xs, rfl, hl, hx⟩ := tyOK_row Tryd.underlying40 hp
  obtain ⟨l, rfl, _⟩ := map_of_all (f := faultPV) (Q := fun _ => True) xs fun es hes => by
    obtain ⟨f, e⟩ := tyOK_fault (n := 9) (hx es hes)
    exact ⟨f, e, trivial⟩
  refine ⟨l, ?_, by simp at hl; omega⟩
  rw [show Tryd.prog.cellsOf 81 = 4 by kernel_rfl]
end Go.Pw
