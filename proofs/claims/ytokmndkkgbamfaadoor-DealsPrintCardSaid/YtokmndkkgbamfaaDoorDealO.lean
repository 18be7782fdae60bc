import Derived.Test.YtokmndkkgbamfaaDoorDealT
import Derived.Test.YtokmndkkgbamfaaDoorPwV
namespace Go.Pw
open Go Go.RowKit Go.Proofs
set_option maxRecDepth 100000
set_option linter.unusedSimpArgs false
set_option linter.unusedVariables false

theorem tyOK_act {n : Nat} {ps : List PV} (h : TyOK Tryd.prog (n + 2) 35 ps) : ∃ x : ActG, ps = actPV x ∧ (inI64 x.kind ∧ inI64 x.side ∧ inI64 x.size ∧ inI64 x.time) := by
  rw [tyOK_succ, Tryd.underlying35] at h
  obtain ⟨parts, rfl, h⟩ := h
  simp only [tyFs_cons, tyFs_nil] at h
  obtain ⟨p1, r1, rfl, h1, p2, r2, rfl, h2, p3, r3, rfl, h3, p4, r4, rfl, h4, p5, r5, rfl, h5, p6, r6, rfl, h6, rfl⟩ := h
  rw [tyOK_succ, Tryd.underlying3] at h1 h2 h5 h6
  rw [tyOK_succ, Tryd.underlying9] at h3 h4
  obtain ⟨z1, rfl, w1⟩ := h1
  obtain ⟨z2, rfl, w2⟩ := h2
  obtain ⟨l3, rfl, m3⟩ := h3
  obtain ⟨l4, rfl, m4⟩ := h4
  obtain ⟨z5, rfl, w5⟩ := h5
  obtain ⟨z6, rfl, w6⟩ := h6
  exact ⟨⟨z1, z2, l3, l4, z5, z6⟩, rfl, inI64_wf w1, inI64_wf w2, inI64_wf w5, inI64_wf w6⟩
theorem tyOK_ref {n : Nat} {ps : List PV} (h : TyOK Tryd.prog (n + 2) 38 ps) : ∃ x : List UInt8 × Int, ps = refPV x ∧ inI64 x.2 := by
  rw [tyOK_succ, Tryd.underlying38] at h
  obtain ⟨parts, rfl, h⟩ := h
  simp only [tyFs_cons, tyFs_nil] at h
  obtain ⟨p1, r1, rfl, h1, p2, r2, rfl, h2, rfl⟩ := h
  rw [tyOK_succ, Tryd.underlying9] at h1
  rw [tyOK_succ, Tryd.underlying28] at h2
  obtain ⟨l1, rfl, m1⟩ := h1
  obtain ⟨z2, rfl, w2⟩ := h2
  exact ⟨(l1, z2), rfl, inI64_wf w2⟩
theorem argOK_deal {s : SV} (h : ArgOK Tryd.prog 26 s) : ∃ d : DealG, s = .agg (dealPV d) ∧ dealI d := by
  cases s with
  | one p => have := h.2; rw [Tryd.underlying26] at this; exact this.elim
  | agg ps =>
    obtain ⟨h, _⟩ := h
    rw [tyOK_succ, Tryd.underlying26] at h
    obtain ⟨parts, rfl, h⟩ := h
    simp only [tyFs_cons, tyFs_nil] at h
    obtain ⟨p1, r1, rfl, h1, p2, r2, rfl, h2, p3, r3, rfl, h3, p4, r4, rfl, h4, rfl⟩ := h
    have one : ∀ {t e : TypeId} {p : List PV}, Tryd.prog.underlying t = some (.slice e) → TyOK Tryd.prog 11 t p → ∃ q, p = [q] := fun ht hp => by
      rw [tyOK_succ, ht] at hp
      obtain ⟨xs, e, _⟩ := hp
      exact ⟨_, e⟩
    obtain ⟨q1, rfl⟩ := one Tryd.underlying22 h1
    obtain ⟨q2, rfl⟩ := one Tryd.underlying23 h2
    obtain ⟨q3, rfl⟩ := one Tryd.underlying24 h3
    obtain ⟨q4, rfl⟩ := one Tryd.underlying24 h4
    obtain ⟨xs1, rfl, hl1, hx1⟩ := tyOK_row Tryd.underlying22 h1
    obtain ⟨xs2, rfl, hl2, hx2⟩ := tyOK_row Tryd.underlying23 h2
    obtain ⟨l3, rfl, m3, _⟩ := tyOK_strs Tryd.underlying24 Tryd.underlying9 (by kernel_rfl) h3
    obtain ⟨l4, rfl, m4, _⟩ := tyOK_strs Tryd.underlying24 Tryd.underlying9 (by kernel_rfl) h4
    obtain ⟨al, rfl, ha⟩ := map_of_all (f := actPV) (Q := fun x => inI64 x.kind ∧ inI64 x.side ∧ inI64 x.size ∧ inI64 x.time) xs1 fun es hes => tyOK_act (n := 8) (hx1 es hes)
    obtain ⟨rs, rfl, hr⟩ := map_of_all (f := refPV) (Q := fun x : List UInt8 × Int => inI64 x.2) xs2 fun es hes => tyOK_ref (n := 8) (hx2 es hes)
    refine ⟨⟨al, rs, l3, l4⟩, ?_, ha, hr⟩
    rw [show Tryd.prog.cellsOf 35 = 6 by kernel_rfl, show Tryd.prog.cellsOf 38 = 2 by kernel_rfl]
    rfl
end Go.Pw
