/-
  PW, part I: slices that are built, made, appended to.
-/
import Derived.Test.YtjhgmempnhjflaaDoorPwH
namespace Go.Pw
open Go Go.RowKit

section
variable {P : Program} {W0 w : World} {h : Hp} {m : Loc} {N : Slot → Hp → Prop}

theorem flat_row {sz : Nat} {vs : List Value} {ess : List (List PV)} (hl : vs.length = ess.length) (hv : ∀ (i : Nat) (v : Value) (es : List PV), vs[i]? = some v → ess[i]? = some es →
      ∃ cs : List Value, v.cells = cs.toArray ∧ cs.length = sz ∧ es.length = sz ∧ (∀ u ∈ cs, u.oneCell' = true) ∧ ∀ (j : Nat) (p : PV) (u : Value), es[j]? = some p → cs[j]? = some u → VR w h m p u) :
    (∀ v ∈ vs, v.cells.size = sz) ∧ ∀ (i : Nat) (es : List PV), ess[i]? = some es → es.length = sz ∧ ∀ (j : Nat) (p : PV), es[j]? = some p → ∃ u, (vs.flatMap fun v => v.cells.toList)[i * sz + j]? = some u ∧ VR w h m p u := by
  induction vs generalizing ess with
  | nil =>
    obtain rfl : ess = [] := List.eq_nil_of_length_eq_zero (by simpa using hl.symm)
    exact ⟨by simp, fun i es hi => by simp at hi⟩
  | cons v vs ih =>
    cases ess with
    | nil => simp at hl
    | cons es ess =>
      obtain ⟨cs, hcs, h1, h2, _, h4⟩ := hv 0 v es rfl rfl
      obtain ⟨a1, a2⟩ := ih (ess := ess) (by simpa using hl) (fun i v' es' hi hi' => hv (i + 1) v' es' (by simpa using hi) (by simpa using hi'))
      refine ⟨fun u hu => ?_, fun i e hi => ?_⟩
      · rcases List.mem_cons.1 hu with rfl | hu
        · rw [hcs]; simpa using h1
        · exact a1 u hu
      · have hflat : ((v :: vs).flatMap fun v => v.cells.toList) = cs ++ vs.flatMap fun v => v.cells.toList := by simp [hcs]
        rw [hflat]
        cases i with
        | zero =>
          simp at hi
          subst hi
          refine ⟨h2, fun j p hj => ?_⟩
          have hlt : j < cs.length := by have := (List.getElem?_eq_some_iff.1 hj).1; omega
          refine ⟨cs[j], ?_, h4 j p cs[j] hj (List.getElem?_eq_getElem _)⟩
          rw [Nat.zero_mul, Nat.zero_add, List.getElem?_append_left hlt]
          exact List.getElem?_eq_getElem _
        | succ i =>
          obtain ⟨b1, b2⟩ := a2 i e (by simpa using hi)
          refine ⟨b1, fun j p hj => ?_⟩
          obtain ⟨u, hu, hr⟩ := b2 j p hj
          refine ⟨u, ?_, hr⟩
          rw [List.getElem?_append_right (by rw [Nat.add_mul]; omega), show (i + 1) * sz + j - cs.length = i * sz + j by rw [Nat.add_mul]; omega]
          exact hu

/-- A slice literal: all elements, in order. -/
def popBuildSlice (P : Program) (t : TypeId) (len : Nat) (parts : List (Nat × Slot)) (N : Slot → Prop) : Prop :=
  match P.underlying t with
  | some (.slice e) => (match szOf P e, parts.mapM (fun x => slotCells x.2) with
    | some sz, some ess => 0 < sz ∧ 0 < len ∧ len = ess.length ∧ parts.map (·.1) = List.range len ∧ (∀ es ∈ ess, es.length = sz) ∧ len * sz ≤ 16777216 ∧ (zeroOf P e).isSome = true ∧ N (.sv (.one (.ro true sz ess)))
    | _, _ => False)
  | _ => False

theorem mapM_cells : ∀ {parts : List (Nat × Slot)} {vals : List (Nat × Value)} {ess : List (List PV)}, parts.mapM (fun x => slotCells x.2) = some ess → parts.length = vals.length →
    (∀ (i : Nat) (x : Nat × Slot) (y : Nat × Value), parts[i]? = some x → vals[i]? = some y → x.1 = y.1 ∧ LR w h m x.2 y.2) →
    ess.length = vals.length ∧ vals.map (·.1) = parts.map (·.1) ∧ ∀ (i : Nat) (v : Value) (es : List PV), (vals.map (·.2))[i]? = some v → ess[i]? = some es →
      ∃ cs : List Value, v.cells = cs.toArray ∧ cs.length = es.length ∧ (∀ u ∈ cs, u.oneCell' = true) ∧ ∀ (j : Nat) (p : PV) (u : Value), es[j]? = some p → cs[j]? = some u → VR w h m p u
  | [], vals, ess, hm, hl, hr => by
    obtain rfl : vals = [] := List.eq_nil_of_length_eq_zero (by simpa using hl.symm)
    simp at hm
    subst hm
    exact ⟨rfl, rfl, fun i v es hi => by simp at hi⟩
  | x :: parts, [], ess, hm, hl, hr => by simp at hl
  | x :: parts, y :: vals, ess, hm, hl, hr => by
    simp only [List.mapM_cons, Option.bind_eq_bind, Option.pure_def] at hm
    obtain ⟨es, h1, hm⟩ := Option.bind_eq_some_iff.1 hm
    obtain ⟨rest, h2, hm⟩ := Option.bind_eq_some_iff.1 hm
    obtain rfl := Option.some.inj hm
    obtain ⟨a1, a2, a3⟩ := mapM_cells (vals := vals) h2 (by simpa using hl) (fun i p q hp hq => hr (i + 1) p q (by simpa using hp) (by simpa using hq))
    obtain ⟨e0, r0⟩ := hr 0 x y rfl rfl
    obtain ⟨cs, c1, c2, c3, c4⟩ := slotCells_ok r0 h1
    refine ⟨by simp [a1], by simp [a2, e0], fun i v e hi he => ?_⟩
    cases i with
    | zero => simp at hi he; subst hi; subst he; exact ⟨cs, c1, c2, c3, c4⟩
    | succ i => exact a3 i v e (by simpa using hi) (by simpa using he)

theorem popBuildSlice_ok {t : TypeId} {len : Nat} {parts : List (Nat × Slot)} {vals : List (Nat × Value)} (H : HR W0 w h m) (hk : popBuildSlice P t len parts (fun s => N s h)) (hl : parts.length = vals.length)
    (hr : ∀ (i : Nat) (x : Nat × Slot) (y : Nat × Value), parts[i]? = some x → vals[i]? = some y → x.1 = y.1 ∧ LR w h m x.2 y.2) :
    ∃ v w', (Instr.buildSlice t len vals.toArray).run P w = .ok v w' ∧ OpOut W0 w h m N v w' := by
  unfold popBuildSlice at hk
  split at hk
  · rename_i e hd
    split at hk
    · rename_i sz ess hs hm
      obtain ⟨h0, hlen0, hlen, hidx, hes, hsmall, hz, hN⟩ := hk
      obtain ⟨a1, a2, a3⟩ := mapM_cells hm hl hr
      obtain ⟨ie, hie, hsz⟩ := Option.map_eq_some_iff.1 hs
      obtain ⟨z, hz⟩ := Option.isSome_iff_exists.1 hz
      unfold zeroOf at hz
      rw [hie] at hz
      simp only [Option.bind_some] at hz
      have hrow := flat_row (w := w) (h := h) (m := m) (sz := sz) (vs := vals.map (·.2)) (ess := ess) (by simp [a1]) (fun i v es hi he => by
        obtain ⟨cs, c1, c2, c3, c4⟩ := a3 i v es hi he
        have := hes es (List.mem_of_getElem? he)
        exact ⟨cs, c1, by omega, this, c3, c4⟩)
      have hfill := Great.fill_whole h0 (vals.map (·.2)) ((Array.range (len * ie.size)).map (z.cells[· % z.cells.size]!)) hrow.1 (by simp [hsz, hlen, a1])
      have hparts : (((vals.map (·.2)).zipIdx 0).map fun x => (x.2, x.1)) = vals := by
        apply List.ext_getElem?
        intro i
        simp only [List.getElem?_map, List.getElem?_zipIdx, Nat.zero_add]
        cases hv : vals[i]? with
        | none => simp
        | some y =>
          simp only [Option.map_some, Option.some.injEq]
          have h1 : (vals.map (·.1))[i]? = some y.1 := by simp [hv]
          rw [a2, hidx, List.getElem?_range (by have := (List.getElem?_eq_some_iff.1 hv).1; omega)] at h1
          obtain rfl := Option.some.inj h1
          rfl
      rw [hparts] at hfill
      have hsz' : len * ie.size ≤ 16777216 := by rw [hsz]; exact hsmall
      have hpos : ¬ len * ie.size = 0 := by
        rw [hsz]
        have := Nat.mul_pos hlen0 h0
        omega
      have hrun := run_buildSlice (P := P) w t e len vals.toArray _ ie z hd hie hz (by omega) hpos (by rw [← hsz] at hfill; exact hfill)
      refine ⟨_, _, hrun, _, h, m, hN, ?_, H.grow ((Below.refl _ w).alloc (Nat.le_refl _) _), Ext.grow ((Below.refl _ w).alloc (Nat.le_refl _) _)⟩
      refine VR.ofRow (fun i es hi => ⟨(hrow.2 i es hi).1, fun j p hj => ?_⟩) hlen.symm (Nat.le_refl _) (fun _ => rfl) (by simp) (fun id b hb => by have := (H.live id b hb).lt; omega)
      obtain ⟨u, hu, hvr⟩ := (hrow.2 i es hi).2 j p hj
      refine ⟨u, ?_, hvr.ext (Ext.grow ((Below.refl _ w).alloc (Nat.le_refl _) _))⟩
      rw [cell_of_row _ _ _ _ _ _ (heap_alloc_new w _)]
      simpa using hu
    · exact hk.elim
  · exact hk.elim

def zeroCells' (z : Value) : List PV := z.cells.toList.map .val

def popMakeSlice (P : Program) (t : TypeId) (l c : Slot) (h : Hp) (N : Slot → Hp → Prop) : Prop :=
  match P.underlying t, l, c with
  | some (.slice e), .sv (.one (.val (.int _ l))), .sv (.one (.val (.int _ c))) => (match szOf P e, zeroOf P e, bytesOf' P e with
    | some sz, some z, some by_ => 0 < sz ∧ z.cells.size = sz ∧ z.cells.all (·.oneCell') = true ∧ 0 ≤ l ∧ l ≤ c ∧ by_ * c ≤ 281474976710656 ∧ c ≤ 9223372036854775807 ∧
      ∀ id, h.lim ≤ id → N (.sv (.one (.own id 0 0 l.toNat))) (h.new id ⟨e, sz, List.replicate l.toNat (zeroCells' z), 0, true⟩)
    | _, _, _ => False)
  | _, _, _ => False

theorem popMakeSlice_ok {t : TypeId} {l c : Slot} {lv cv : Value} (H : HR W0 w h m) (hk : popMakeSlice P t l c h N) (hl : LR w h m l lv) (hc : LR w h m c cv) :
    ∃ v w', (Instr.makeSlice t lv cv).run P w = .ok v w' ∧ OpOut W0 w h m N v w' := by
  unfold popMakeSlice at hk
  split at hk
  · rename_i e kl l kc c hd
    cases hl
    cases hc
    split at hk
    · rename_i sz z by_ hs hz hb
      obtain ⟨h0, hzs, hz1, h1, h2, h3, h4, hN⟩ := hk
      obtain ⟨ie, hie, hsz⟩ := Option.map_eq_some_iff.1 hs
      unfold zeroOf at hz
      unfold bytesOf' at hb
      rw [hie] at hz hb
      simp only [Option.bind_some] at hz
      simp only [Option.map_some, Option.some.injEq] at hb
      subst hb
      have hrun := run_make (P := P) w t e ie z hd hie hz kl kc l c h1 h2 h3 h4
      have hB : Below w.heap.size w (w.alloc (.cells (madeCells z.cells (c.toNat * ie.size)) e)) := (Below.refl _ w).alloc (Nat.le_refl _) _
      have X := HR.born H (Nat.le_refl h.lim) ⟨e, sz, List.replicate l.toNat (zeroCells' z), 0, true⟩ w.heap.size c.toNat hB (Nat.le_refl _)
        ⟨madeCells z.cells (c.toNat * ie.size), (0, 0), h0, heap_alloc_new w _, by rw [size_madeCells, hsz], by simp; omega, by simp [maxLen]; omega, fun _ => rfl, .inl (Nat.le_refl _), fun i es hi => by
          simp only [List.getElem?_replicate] at hi
          split at hi
          · rename_i hil
            obtain rfl := Option.some.inj hi
            refine ⟨by simp [zeroCells', hzs], fun j p hj => ?_⟩
            simp only [zeroCells', List.getElem?_map] at hj
            obtain ⟨u, hu, rfl⟩ := Option.map_eq_some_iff.1 hj
            have hjl : j < sz := by have := (List.getElem?_eq_some_iff.1 hu).1; simp at this; omega
            have hin : i * sz + j < c.toNat * ie.size := by
              rw [hsz]
              have := Nat.mul_le_mul_right sz (show i + 1 ≤ c.toNat by omega)
              rw [Nat.add_mul, Nat.one_mul] at this
              omega
            refine ⟨u, ?_, .val u ?_⟩
            · have hmod : (i * sz + j) % z.cells.size = j := by
                rw [hzs, Nat.mul_comm, Nat.mul_add_mod]
                exact Nat.mod_eq_of_lt hjl
              simp only [madeCells, Array.getElem?_map, Array.getElem?_range, if_pos hin, Option.map_some, hmod]
              have hu' : z.cells[j]? = some u := by simpa using hu
              simp [getElem!_def, hu']
            · exact Array.all_eq_true_iff_forall_mem.1 hz1 u (by have := List.mem_of_getElem? hu; simpa using this)
          · cases hi⟩
      refine ⟨_, _, hrun, _, _, _, hN h.lim (Nat.le_refl _), ?_, X.1, X.2⟩
      refine .own _ _ _ _ _ _ (by simp [Hp.new]) (fun _ _ => Nat.zero_le _) (fun b hb _ => ?_)
      simp only [Hp.new, if_true, Option.some.injEq] at hb
      subst hb
      simp only [Loc.set, if_true, List.length_replicate, Nat.zero_add, Nat.zero_mul, Nat.sub_zero, Nat.zero_le, and_self, implies_true, Nat.le_refl]
    · exact hk.elim
  · exact hk.elim

end
end Go.Pw
