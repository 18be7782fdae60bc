import Derived.Test.YtokmndkkgbamfaaGreatDoorChgL
import Derived.Test.YtokmndkkgbamfaaGreatDoorPwV
import Derived.Test.YtokmndkkgbamfaaGreatDoorChgFacts
namespace Go.Pw
open Go Go.RowKit Go.Proofs
set_option maxRecDepth 100000
set_option linter.unusedSimpArgs false
set_option linter.unusedVariables false

theorem tyOK_mark {n : Nat} {ps : List PV} (h : TyOK Tryz.prog (n + 2) 86 ps) : ∃ x : MarkG, ps = markPV x ∧ x.path.length ≤ 9223372036854775807 := by
  rw [tyOK_succ, Tryz.underlying86] at h
  obtain ⟨parts, rfl, h⟩ := h
  simp only [tyFs_cons, tyFs_nil] at h
  obtain ⟨p1, r1, rfl, h1, p2, r2, rfl, h2, p3, r3, rfl, h3, p4, r4, rfl, h4, rfl⟩ := h
  rw [tyOK_succ, Tryz.underlying3] at h2 h3
  rw [tyOK_succ, Tryz.underlying9] at h1 h4
  obtain ⟨l1, rfl, m1⟩ := h1
  obtain ⟨z2, rfl, w2⟩ := h2
  obtain ⟨z3, rfl, w3⟩ := h3
  obtain ⟨l4, rfl, m4⟩ := h4
  have hmax : maxLen = 9223372036854775807 := by kernel_rfl
  exact ⟨⟨l1, z2, z3, l4⟩, rfl, by rw [← hmax]; exact m1⟩
theorem argOK_marks {s : SV} (h : ArgOK Tryz.prog 44 s) : ∃ A : List MarkG, s = .one (.ro false 4 (A.map markPV)) ∧ ∀ x ∈ A, x.path.length ≤ 9223372036854775807 := by
  cases s with
  | agg ps => have := h.2; rw [Tryz.underlying44] at this; exact this.elim
  | one p =>
    obtain ⟨h, _⟩ := h
    obtain ⟨xs, rfl, hl, hx⟩ := tyOK_row Tryz.underlying44 h
    obtain ⟨A, rfl, ha⟩ := map_of_all (f := markPV) (Q := fun x => x.path.length ≤ 9223372036854775807) xs fun es hes => tyOK_mark (n := 9) (hx es hes)
    refine ⟨A, ?_, ha⟩
    rw [show Tryz.prog.cellsOf 86 = 4 by kernel_rfl]
theorem marks_bulk : ∀ A : List MarkG, A.length ≤ pvWss (A.map markPV)
  | [] => Nat.le_refl _
  | a :: A => by
    have := marks_bulk A
    simp only [List.map_cons, List.length_cons, pvWss, markPV, pvWs, pvW] at *
    omega
end Go.Pw
