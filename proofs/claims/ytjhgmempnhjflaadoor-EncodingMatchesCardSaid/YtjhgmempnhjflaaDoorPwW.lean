/-
  PW, part W: a slice of one's own, frozen: from here on it is only read.
-/
import Derived.Test.YtjhgmempnhjflaaDoorPwS
import Derived.Test.YtjhgmempnhjflaaDoorPwQ
namespace Go.Pw
open Go Go.RowKit

def Hp.drop (h : Hp) (id : Nat) : Hp := ⟨fun j => if j = id then none else h.blk j, h.lim⟩
theorem Less.drop (h : Hp) (id : Nat) : Less h (h.drop id) := ⟨fun j b hb => by
  simp only [Hp.drop] at hb
  split at hb
  · cases hb
  · exact hb, Nat.le_refl _⟩

theorem vr_freeze {W0 w : World} {h : Hp} {m : Loc} {id ver len : Nat} {b : Blk} {v : Value} (R : HR W0 w h m) (hb : h.blk id = some b) (hv : b.ver = ver) (H : VR w h m (.own id ver 0 len) v) : VR w (h.drop id) m (.ro false b.sz (b.es.take len)) v := by
  have x := (Less.drop h id).ext (w := w) (m := m)
  cases H with
  | own _ _ _ _ ad c hid hver hbl =>
    obtain ⟨h1, h2, h3⟩ := hbl b hb hv
    obtain ⟨rfl, rfl⟩ := h3 (.inr rfl)
    obtain ⟨h0, cur, fr, hg, hsz, hle, hcap, hpl, hfr, hc⟩ := R.live id b hb
    rw [Nat.zero_mul]
    have hlen : (b.es.take len).length = len := by rw [List.length_take]; omega
    refine .ro false b.sz (b.es.take len) (m id).1 0 _ len (fun i j => (cur[i * b.sz + j]?).getD undef) hlen (fun h => by cases h) (by omega) (R.live id b hb).lt ?_ ?_ ?_ ?_
    · intro j c hj e
      simp only [Hp.drop] at hj
      split at hj
      · cases hj
      · rename_i hne
        exact hne (R.inj j id c b hj hb e)
    · intro i es hi
      rw [List.getElem?_take] at hi
      split at hi
      · exact (hc i es hi).1
      · cases hi
    · intro i es j p hi hj
      rw [List.getElem?_take] at hi
      split at hi
      · obtain ⟨u, hu, _⟩ := (hc i es hi).2 j p hj
        rw [cell_of_row w _ _ cur b.ty fr hg, Nat.zero_add, hu]
        rfl
      · cases hi
    · intro i es j p hi hj
      rw [List.getElem?_take] at hi
      split at hi
      · obtain ⟨u, hu, hr⟩ := (hc i es hi).2 j p hj
        rw [hu]
        exact hr.ext x
      · cases hi

/-- A slot that holds such a slice may be told as a row that is only read, the block forgotten. -/
theorem wk_freeze {W0 : World} {e : Nat → Slot} {h : Hp} {t id ver len : Nat} {b : Blk} (hb : h.blk id = some b) (hv : b.ver = ver) (ht : e t = .sv (.one (.own id ver 0 len))) :
    Wk W0 ⟨e, h⟩ ⟨upd e t (.sv (.one (.ro false b.sz (b.es.take len)))), h.drop id⟩ :=
  ⟨Less.drop h id, fun w m R i v hl => by
    simp only [upd]
    split
    · rename_i hi
      subst hi
      have hl' : LR w h m (e i) v := hl
      rw [ht] at hl'
      exact vr_freeze R hb hv hl'
    · exact hl.ext (Less.drop h id).ext⟩

theorem endKeeps2 {W0 : World} {h h1 : Hp} {s : Slot} {a b : Value} (hs : Keeps h h1) (hr : s = .tup [.one (.val a), .one (.val b)]) :
    ∃ r' h', SlotWk W0 h1 s h' r' ∧ (r' = .tup [.one (.val a), .one (.val b)] ∧ Same h h') :=
  endKeeps hs hr (by
    subst hr
    rintro w m u ⟨vs, e, hl, hv⟩
    refine ⟨vs, e, hl, fun j s u h1 h2 => ?_⟩
    have := hv j s u h1 h2
    match j, h1 with
    | 0, h1 => obtain rfl := Option.some.inj h1; cases this with | val _ h1 => exact .val _ h1
    | 1, h1 => obtain rfl := Option.some.inj h1; cases this with | val _ h1 => exact .val _ h1)

/-- A slice of texts that a loop builds: nil at first, then of its own. -/
def OutIs (ty : TypeId) (h0 hp : Hp) (sl : Slot) (out : List (List UInt8)) : Prop :=
  (sl = .sv (.one (.val (.slice none 0 0))) ∧ out = []) ∨
  ∃ id ver es, sl = .sv (.one (.own id ver 0 out.length)) ∧ h0.lim ≤ id ∧ hp.blk id = some ⟨ty, 1, es, ver, true⟩ ∧ es.take out.length = pstrs out

section
variable {P : Program} {W0 : World} {h0 hp : Hp} {sl : Slot} {out : List (List UInt8)} {t e : TypeId}

theorem OutIs.same {hq : Hp} (O : OutIs e h0 hp sl out) (s : Same hp hq) : OutIs e h0 hq sl out := by
  rcases O with ⟨a, b⟩ | ⟨id, ver, es, a, b, c, d⟩
  · exact .inl ⟨a, b⟩
  · exact .inr ⟨id, ver, es, a, b, by rw [s.1]; exact c, d⟩

theorem out_len {N : Value → Prop} (ht : P.underlying t = some (.slice e)) (O : OutIs e h0 hp sl out) (H : N (.int .i64 out.length)) : popLen P t sl N := by
  unfold popLen
  rw [ht]
  rcases O with ⟨rfl, rfl⟩ | ⟨id, ver, es, rfl, _, _, _⟩
  · exact H
  · exact H

theorem out_cut {N : Slot → Prop} {k : Int} (ht : P.underlying t = some (.slice e)) (hz : szOf P e = some 1) (O : OutIs e h0 hp sl out) (hne : out ≠ []) (hk : k = (out.length : Int) - 1) (H : ∀ sl', OutIs e h0 hp sl' out.dropLast → N sl') :
    popSlice P t sl none (some (.sv (.one (.val (.int .i64 k))))) hp N := by
  have hpos : 0 < out.length := List.length_pos_iff.2 hne
  unfold popSlice
  rw [ht]
  rcases O with ⟨rfl, rfl⟩ | ⟨id, ver, es, rfl, h1, h2, h3⟩
  · exact absurd rfl hne
  · simp only [boundOf, h2]
    refine ⟨trivial, Int.le_refl _, by omega, by omega, hz, ?_⟩
    have e1 : 0 + (0 : Int).toNat = 0 := rfl
    have e2 : k.toNat - (0 : Int).toNat = out.dropLast.length := by rw [List.length_dropLast]; omega
    have e3 : ((0 : Nat) : Int).toNat = 0 := rfl
    refine H _ (.inr ⟨id, ver, es, ?_, h1, h2, ?_⟩)
    · simp only [e3]
      rw [show k.toNat - 0 = out.dropLast.length by rw [List.length_dropLast]; omega]
    · rw [List.length_dropLast, List.dropLast_eq_take, pstrs, List.map_take, ← pstrs, ← h3, List.take_take, Nat.min_eq_left (by omega)]

theorem out_app {N : Slot → Hp → Prop} {x : List UInt8} {z : Value} {by_ : Nat} (hb0 : hpOk h0) (ht : P.underlying t = some (.slice e)) (hz : szOf P e = some 1) (hby : bytesOf' P e = some by_) (hze : zeroOf P e = some z) (hzc : z.cells.size = 1) (O : OutIs e h0 hp sl out) (K : Keeps h0 hp) (hl : appendLim (out.length + 1) by_)
    (H : ∀ sl' hp', OutIs e h0 hp' sl' (out ++ [x]) → Keeps h0 hp' → N sl' hp') : popAppend P t sl (.sv (.one (.ro true 1 [[pstr x]]))) hp N := by
  unfold popAppend
  rw [ht]
  simp only [hz, hby, hze, srcOf]
  refine ⟨Nat.one_pos, hzc, .inr trivial, ?_⟩
  rcases O with ⟨rfl, rfl⟩ | ⟨id, ver, es, rfl, h1, h2, h3⟩
  · refine ⟨hl, fun h => by simp at h, fun _ id hid => H _ _ (.inr ⟨id, 0, [[pstr x]], rfl, Nat.le_trans K.2 hid, blk_new _ _ _, rfl⟩) ?_⟩
    exact ⟨fun j b hj => by
      have hj' := hb0 j b hj
      simp only [Hp.new]
      rw [if_neg (by have := K.2; omega)]
      exact K.1 j b hj, by simp only [Hp.new]; have := K.2; omega⟩
  · simp only [h2]
    refine ⟨trivial, trivial, trivial, trivial, by simpa using hl, H _ _ (.inr ⟨id, ver + 1, es.take out.length ++ [[pstr x]], by simp, h1, blk_set _ _ _, ?_⟩) (K.set hb0 h1)⟩
    rw [h3, List.take_of_length_le (by simp)]
    simp

theorem out_freeze {E : Nat → Slot} {s : Nat} (O : OutIs e h0 hp (E s) out) (hb0 : hpOk h0) (K : Keeps h0 hp) : ∃ hp', Wk W0 ⟨E, hp⟩ ⟨upd E s (.sv (.one (.ro false 1 (pstrs out)))), hp'⟩ ∧ Keeps h0 hp' := by
  rcases O with ⟨h1, rfl⟩ | ⟨id, ver, es, h1, h2, h3, h4⟩
  · refine ⟨hp, ⟨Less.refl _, fun w m R i v hl => ?_⟩, K⟩
    simp only [upd]
    split
    · rename_i hi
      subst hi
      have hl' : LR w hp m (E i) v := hl
      rw [h1] at hl'
      cases hl' with
      | val _ _ => exact .ro0 _ _ _ _ (fun h => by cases h)
    · exact hl
  · have k := wk_freeze (W0 := W0) h3 rfl h1
    simp only [h4] at k
    exact ⟨_, k, fun j b hj => by
      have := hb0 j b hj
      simp only [Hp.drop]
      rw [if_neg (by omega)]
      exact K.1 j b hj, K.2⟩

theorem pwp_freeze {n : Nat} {c : Code} {Kx : Exit → St → Prop} {E : Nat → Slot} (s : Nat) (hE : E s = sl) (O : OutIs e h0 hp sl out) (hb0 : hpOk h0) (K : Keeps h0 hp)
    (H : ∀ hp', Keeps h0 hp' → PWP P W0 n c Kx ⟨upd E s (.sv (.one (.ro false 1 (pstrs out)))), hp'⟩) : PWP P W0 n c Kx ⟨E, hp⟩ := by
  obtain ⟨hp', k, hk⟩ := out_freeze (W0 := W0) (E := E) (s := s) (by rw [hE]; exact O) hb0 K
  exact (H hp' hk).wk k

end
end Go.Pw
