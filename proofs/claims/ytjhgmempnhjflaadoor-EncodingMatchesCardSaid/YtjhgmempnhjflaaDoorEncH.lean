import Derived.Test.YtjhgmempnhjflaaDoorCleanP
import Derived.Test.YtjhgmempnhjflaaDoorPwX
namespace Go.Pw
open Go Go.RowKit Go.Proofs
set_option maxRecDepth 100000
set_option linter.unusedSimpArgs false
set_option linter.unusedVariables false
theorem argOK_enc {s : SV} (h : ArgOK Tryd.prog 64 s) : ∃ x : Enc, s = .agg (encPV x) ∧ (∀ y ∈ [x.forbid, x.head, x.tail], y.length ≤ 9223372036854775807) ∧ x.names.length ≤ 9223372036854775807 := by
  have hmax : maxLen = 9223372036854775807 := by kernel_rfl
  cases s with
  | one p => have := h.2; rw [Tryd.underlying64] at this; exact this.elim
  | agg ps =>
    obtain ⟨h, _⟩ := h
    rw [tyOK_succ, Tryd.underlying64] at h
    obtain ⟨parts, rfl, h⟩ := h
    simp only [tyFs_cons, tyFs_nil] at h
    obtain ⟨p1, r1, rfl, h1, p2, r2, rfl, h2, p3, r3, rfl, h3, p4, r4, rfl, h4, p5, r5, rfl, h5, p6, r6, rfl, h6, rfl⟩ := h
    rw [tyOK_succ, Tryd.underlying9] at h1 h2 h3
    obtain ⟨l1, rfl, m1⟩ := h1
    obtain ⟨l2, rfl, m2⟩ := h2
    obtain ⟨l3, rfl, m3⟩ := h3
    have h4' : ∃ p, p4 = [p] := by
      rw [tyOK_succ, Tryd.underlying49] at h4
      obtain ⟨xs, e, _⟩ := h4
      exact ⟨_, e⟩
    obtain ⟨q, rfl⟩ := h4'
    obtain ⟨l4, rfl, m4, _⟩ := tyOK_strs Tryd.underlying49 Tryd.underlying9 (by kernel_rfl) h4
    rw [tyOK_succ, Tryd.underlying4] at h5
    obtain ⟨b, rfl⟩ := h5
    rw [tyOK_succ, Tryd.underlying3] at h6
    obtain ⟨z, rfl, _⟩ := h6
    refine ⟨⟨l1, l2, l3, b, l4, z⟩, rfl, fun y hy => ?_, by show l4.length ≤ _; omega⟩
    simp only [List.mem_cons, List.not_mem_nil, or_false] at hy
    rcases hy with rfl | rfl | rfl <;> omega
end Go.Pw
