import Derived.Test.YtokmndkkgbamfaaGreatDoorMountA
import Derived.Test.YtokmndkkgbamfaaGreatDoorPwV
namespace Go.Pw
open Go Go.RowKit Go.Proofs
set_option maxRecDepth 100000
set_option linter.unusedSimpArgs false
set_option linter.unusedVariables false
theorem argOK_feat {s : SV} (h : ArgOK Tryz.prog 23 s) : ∃ x : Feat, s = .agg (featPV x) ∧ x.forbid.length ≤ 9223372036854775807 ∧ inI64 x.sums := by
  have hmax : maxLen = 9223372036854775807 := by kernel_rfl
  cases s with
  | one p => have := h.2; rw [Tryz.underlying23] at this; exact this.elim
  | agg ps =>
    obtain ⟨h, _⟩ := h
    rw [tyOK_succ, Tryz.underlying23] at h
    obtain ⟨parts, rfl, h⟩ := h
    simp only [tyFs_cons, tyFs_nil] at h
    obtain ⟨p1, r1, rfl, h1, p2, r2, rfl, h2, p3, r3, rfl, h3, p4, r4, rfl, h4, p5, r5, rfl, h5, p6, r6, rfl, h6, p7, r7, rfl, h7, p8, r8, rfl, h8, p9, r9, rfl, h9, rfl⟩ := h
    rw [tyOK_succ, Tryz.underlying3] at h1 h2 h3 h4 h5 h6 h7 h8
    rw [tyOK_succ, Tryz.underlying9] at h9
    obtain ⟨z1, rfl, _⟩ := h1
    obtain ⟨z2, rfl, w2⟩ := h2
    obtain ⟨z3, rfl, _⟩ := h3
    obtain ⟨z4, rfl, _⟩ := h4
    obtain ⟨z5, rfl, _⟩ := h5
    obtain ⟨z6, rfl, _⟩ := h6
    obtain ⟨z7, rfl, _⟩ := h7
    obtain ⟨z8, rfl, _⟩ := h8
    obtain ⟨l9, rfl, m9⟩ := h9
    exact ⟨⟨z1, z2, z3, z4, z5, z6, z7, z8, l9⟩, rfl, by show l9.length ≤ _; omega, inI64_wf w2⟩

theorem argOK_mnt {s : SV} (h : ArgOK Tryz.prog 25 s) : ∃ o : MntO, s = .agg (mntPV o) := by
  cases s with
  | one p => have := h.2; rw [Tryz.underlying25] at this; exact this.elim
  | agg ps =>
    obtain ⟨h, _⟩ := h
    rw [tyOK_succ, Tryz.underlying25] at h
    obtain ⟨parts, rfl, h⟩ := h
    simp only [tyFs_cons, tyFs_nil] at h
    obtain ⟨p1, r1, rfl, h1, p2, r2, rfl, h2, p3, r3, rfl, h3, p4, r4, rfl, h4, p5, r5, rfl, h5, p6, r6, rfl, h6, p7, r7, rfl, h7, rfl⟩ := h
    rw [tyOK_succ, Tryz.underlying3] at h1 h2 h3 h4 h5 h6
    rw [tyOK_succ, Tryz.underlying4] at h7
    obtain ⟨z1, rfl, _⟩ := h1
    obtain ⟨z2, rfl, _⟩ := h2
    obtain ⟨z3, rfl, _⟩ := h3
    obtain ⟨z4, rfl, _⟩ := h4
    obtain ⟨z5, rfl, _⟩ := h5
    obtain ⟨z6, rfl, _⟩ := h6
    obtain ⟨z7, rfl⟩ := h7
    exact ⟨⟨z1, z2, z3, z4, z5, z6, z7⟩, rfl⟩
end Go.Pw
