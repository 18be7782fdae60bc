/-
  PW, part H: indexing, slicing, slices that are made, appended to, converted.
-/
import Derived.Test.YtjhgmempnhjflaaDoorPwG
namespace Go.Pw
open Go Go.RowKit

section
variable {P : Program} {W0 w : World} {h : Hp} {m : Loc} {N : Slot → Hp → Prop}

def popIndexAddr (P : Program) (t : TypeId) (x ix : Slot) (h : Hp) (N : Slot → Prop) : Prop :=
  match ix with
  | .sv (.one (.val (.int _ i))) =>
    (match P.underlying t, x with
    | some (.slice e), .sv (.one (.ro _ sz xs)) => (match xs[i.toNat]? with | some es => 0 ≤ i ∧ szOf P e = some sz ∧ N (.sv (.one (.rop es))) | none => False)
    | some (.slice e), .sv (.one (.own id ver off len)) => (match h.blk id with
      | some b => b.ver = ver ∧ 0 ≤ i ∧ i < len ∧ szOf P e = some b.sz ∧ N (.sv (.one (.ptr id ver (off + i.toNat) 0)))
      | none => False)
    | some (.array n e), .sv (.one (.ptr id ver i0 o)) => 0 ≤ i ∧ i < n ∧ (match szOf P e with | some sz => N (.sv (.one (.ptr id ver i0 (o + i.toNat * sz)))) | none => False)
    | some (.array n e), .sv (.one (.rop cs)) => 0 ≤ i ∧ i < n ∧ (match szOf P e with | some sz => N (.sv (.one (.rop (cs.drop (i.toNat * sz))))) | none => False)
    | some (.array n e), .sv (.one (.val (.pointer (some a)))) => 0 ≤ i ∧ i < n ∧ a.spot = none ∧ (match szOf P e with | some sz => N (.sv (.one (.val (.pointer (some ⟨a.block, a.off + i.toNat * sz, none⟩))))) | none => False)
    | _, _ => False)
  | _ => False

theorem popIndexAddr_ok {t : TypeId} {x ix : Slot} {a b : Value} {K : Slot → Prop} (hk : popIndexAddr P t x ix h K) (hx : LR w h m x a) (hi : LR w h m ix b) :
    ∃ v r, (Instr.indexAt t a b).run P w = .ok v w ∧ K r ∧ LR w h m r v := by
  unfold popIndexAddr at hk
  split at hk
  · rename_i k i
    cases hi
    split at hk
    · rename_i e f sz xs hd
      split at hk
      · rename_i es hes
        obtain ⟨h0, hs, hk⟩ := hk
        have hlt : i.toNat < xs.length := (List.getElem?_eq_some_iff.1 hes).1
        cases hx with
        | ro0 => simp at hlt
        | ro _ _ _ g off c n vs hn hc hnc hg hav hlen hcell hvs =>
          subst hn
          have hin : 0 ≤ i ∧ i < ((xs.length : Nat) : Int) := ⟨h0, by omega⟩
          refine ⟨_, _, ?_, hk, .rop es g (off + i.toNat * sz) (fun j => vs i.toNat j) hg hav (fun j p hj => hcell _ es j p hes hj) (fun j p hj => hvs _ es j p hes hj)⟩
          simp only [Instr.indexAt, asIntOf, Sem.run_bind, Sem.run_pure, Result.andThen_ok, run_underlying hd, hin, and_self, if_true, run_sizeOf' hs, addr_add]
      · exact hk.elim
    · rename_i e id ver off len hd
      split at hk
      · rename_i bl hb
        obtain ⟨hver, h0, hlt, hs, hk⟩ := hk
        cases hx with
        | own _ _ _ _ ad c hid hv hb' =>
          obtain ⟨h1, h2, h3⟩ := hb' bl hb hver
          obtain ⟨rfl, rfl⟩ := h3 (.inl (by omega))
          refine ⟨.pointer (some ⟨(m id).1, (off + i.toNat) * bl.sz, none⟩), _, ?_, hk, .ptr _ _ _ _ _ hid hv (fun b2 hb2 _ => ?_)⟩
          · simp only [Instr.indexAt, asIntOf, Sem.run_bind, Sem.run_pure, Result.andThen_ok, run_underlying hd, h0, hlt, and_self, if_true, run_sizeOf' hs, addr_add, Nat.add_mul]
          · obtain rfl := Option.some.inj (hb.symm.trans hb2)
            rfl
      · exact hk.elim
    · rename_i n e id ver i0 o hd
      obtain ⟨h0, hlt, hk⟩ := hk
      split at hk
      · rename_i sz hs
        cases hx with
        | ptr _ _ _ _ ad hid hv hb' =>
          refine ⟨_, _, ?_, hk, .ptr _ _ _ _ (ad.add (i.toNat * sz)) hid hv (fun b2 hb2 hv2 => by rw [hb' b2 hb2 hv2, addr_add, Nat.add_assoc])⟩
          simp only [Instr.indexAt, asIntOf, Instr.sureAddr, Sem.run_bind, Sem.run_pure, Result.andThen_ok, run_underlying hd, h0, hlt, and_self, if_true, run_sizeOf' hs]
      · exact hk.elim
    · rename_i n e cs hd
      obtain ⟨h0, hlt, hk⟩ := hk
      split at hk
      · rename_i sz hs
        cases hx with
        | rop _ g off vs hg hav hcell hvs =>
          refine ⟨_, _, ?_, hk, .rop _ g (off + i.toNat * sz) (fun j => vs (i.toNat * sz + j)) hg hav (fun j p hj => ?_) (fun j p hj => ?_)⟩
          · simp only [Instr.indexAt, asIntOf, Instr.sureAddr, Sem.run_bind, Sem.run_pure, Result.andThen_ok, run_underlying hd, h0, hlt, and_self, if_true, run_sizeOf' hs, addr_add]
          · rw [List.getElem?_drop] at hj
            have := hcell _ p hj
            rwa [← Nat.add_assoc] at this
          · rw [List.getElem?_drop] at hj
            exact hvs _ p hj
      · exact hk.elim
    · rename_i n e ad hd
      obtain ⟨h0, hlt, hsp, hk⟩ := hk
      split at hk
      · rename_i sz hs
        cases hx
        obtain ⟨blk, o, s⟩ := ad
        simp only at hsp
        subst hsp
        refine ⟨_, _, ?_, hk, .val _ rfl⟩
        simp only [Instr.indexAt, asIntOf, Instr.sureAddr, Sem.run_bind, Sem.run_pure, Result.andThen_ok, run_underlying hd, h0, hlt, and_self, if_true, run_sizeOf' hs, addr_add]
      · exact hk.elim
    · exact hk.elim
  · exact hk.elim

def popIndex (P : Program) (t : TypeId) (x ix : Slot) (N : Slot → Prop) : Prop :=
  match ix with
  | .sv (.one (.val (.int _ i))) =>
    (match P.underlying t, x with
    | some .string, .sv (.one (.val (.string s))) => (match s[i.toNat]? with | some c => 0 ≤ i ∧ N (.sv (.one (.val (.int .u8 c.toNat)))) | none => False)
    | some (.array n e), .sv (.agg ps) => 0 ≤ i ∧ i < n ∧ (match szOf P e with | some sz => partK P e ps (i.toNat * sz) N | none => False)
    | _, _ => False)
  | _ => False

theorem popIndex_ok {t : TypeId} {x ix : Slot} {a b : Value} {K : Slot → Prop} (hk : popIndex P t x ix K) (hx : LR w h m x a) (hi : LR w h m ix b) :
    ∃ v r, (Instr.index t a b).run P w = .ok v w ∧ K r ∧ LR w h m r v := by
  unfold popIndex at hk
  split at hk
  · rename_i k i
    cases hi
    split at hk
    · rename_i s hd
      cases hx
      split at hk
      · rename_i c hc
        obtain ⟨h0, hk⟩ := hk
        refine ⟨_, _, ?_, hk, .val _ rfl⟩
        simp only [Instr.index, asIntOf, Sem.run_bind, Sem.run_pure, Result.andThen_ok, run_underlying hd, if_pos h0, hc]
      · exact hk.elim
    · rename_i n e ps hd
      obtain ⟨h0, hlt, hk⟩ := hk
      split at hk
      · rename_i sz hs
        obtain ⟨vs, rfl, hl, hv⟩ := hx
        obtain ⟨v, r, h1, h2, h3⟩ := partK_ok (P := P) hk hl hv
        refine ⟨v, r, ?_, h2, h3⟩
        simp only [Instr.index, asIntOf, Sem.run_bind, Sem.run_pure, Result.andThen_ok, run_underlying hd, h0, hlt, and_self, if_true, run_sizeOf' hs, h1]
      · exact hk.elim
    · exact hk.elim
  · exact hk.elim

/-- A bound of a slice expression. -/
def boundOf (d : Nat) : Option Slot → Option Int
  | none => some d
  | some (.sv (.one (.val (.int _ i)))) => some i
  | some _ => none

def popSlice (P : Program) (t : TypeId) (x : Slot) (lo hi : Option Slot) (h : Hp) (N : Slot → Prop) : Prop :=
  match P.underlying t, x with
  | some .string, .sv (.one (.val (.string s))) => (match boundOf 0 lo, boundOf s.size hi with
    | some l, some k => 0 ≤ l ∧ l ≤ k ∧ k ≤ s.size ∧ N (.sv (.one (.val (.string (s.extract l.toNat k.toNat)))))
    | _, _ => False)
  | some (.slice e), .sv (.one (.ro _ sz xs)) => (match boundOf 0 lo, boundOf xs.length hi with
    | some l, some k => 0 ≤ l ∧ l ≤ k ∧ k ≤ xs.length ∧ szOf P e = some sz ∧ N (.sv (.one (.ro false sz ((xs.take k.toNat).drop l.toNat))))
    | _, _ => False)
  | some (.slice e), .sv (.one (.own id ver off len)) => (match boundOf 0 lo, boundOf len hi, h.blk id with
    | some l, some k, some b => b.ver = ver ∧ 0 ≤ l ∧ l ≤ k ∧ k ≤ len ∧ szOf P e = some b.sz ∧ N (.sv (.one (.own id ver (off + l.toNat) (k.toNat - l.toNat))))
    | _, _, _ => False)
  | some (.slice e), .sv (.one (.val (.slice none 0 0))) => (match boundOf 0 lo, boundOf 0 hi with
    | some l, some k => l = 0 ∧ k = 0 ∧ (∃ sz, szOf P e = some sz) ∧ N (.sv (.one (.val (.slice none 0 0))))
    | _, _ => False)
  | _, _ => False

theorem run_sliceBounds {isSlice : Bool} {len cap : Nat} {lo hi : Option Slot} {lv hv : Option Value} {l k : Int}
    (hlo : ∀ s, lo = some s → ∃ v, lv = some v ∧ LR w h m s v) (hln : lo = none → lv = none) (hhi : ∀ s, hi = some s → ∃ v, hv = some v ∧ LR w h m s v) (hhn : hi = none → hv = none)
    (h1 : boundOf 0 lo = some l) (h2 : boundOf len hi = some k) (h3 : 0 ≤ l) (h4 : l ≤ k) (h5 : k ≤ len) (h6 : len ≤ cap) :
    (Instr.sliceBounds isSlice len cap lv hv none).run P w = .ok (l.toNat, k.toNat, cap) w := by
  have hbound : ∀ (v : Value) (kk : IntKind) (i : Int) (y : Nat) (c : BoundsCode), v = .int kk i → 0 ≤ i → i ≤ y → (Instr.sliceBound v y c).run P w = .ok i.toNat w := by
    rintro v kk i y c rfl a b
    simp only [Instr.sliceBound, asIntOf, Sem.run_bind, Sem.run_pure, Result.andThen_ok, a, b, and_self, if_true]
  have get : ∀ (o : Option Slot) (ov : Option Value) (d : Nat) (q : Int), (∀ s, o = some s → ∃ v, ov = some v ∧ LR w h m s v) → (o = none → ov = none) → boundOf d o = some q → (ov = none ∧ q = d) ∨ ∃ kk, ov = some (.int kk q) := by
    intro o ov d q hs hn hb
    cases o with
    | none => simp [boundOf] at hb; exact .inl ⟨hn rfl, hb.symm⟩
    | some s =>
      obtain ⟨v, rfl, hr⟩ := hs s rfl
      unfold boundOf at hb
      split at hb
      · rename_i e; cases e
      · rename_i kk i e
        obtain rfl := Option.some.inj e
        obtain rfl := Option.some.inj hb
        cases hr
        exact .inr ⟨kk, rfl⟩
      · cases hb
  rcases get lo lv 0 l hlo hln h1 with ⟨rfl, e1⟩ | ⟨kl, rfl⟩ <;> rcases get hi hv len k hhi hhn h2 with ⟨rfl, e2⟩ | ⟨kh, rfl⟩
  · subst e1; subst e2
    simp [Instr.sliceBounds]
  · subst e1
    have := hbound (.int kh k) kh k cap (if isSlice then .sliceAcap else .sliceAlen) rfl (by omega) (by omega)
    simp [Instr.sliceBounds, this]
  · subst e2
    have := hbound (.int kl l) kl l len .sliceB rfl h3 (by omega)
    simp [Instr.sliceBounds, this]
  · have a1 := hbound (.int kh k) kh k cap (if isSlice then .sliceAcap else .sliceAlen) rfl (by omega) (by omega)
    have a2 := hbound (.int kl l) kl l k.toNat .sliceB rfl h3 (by omega)
    simp [Instr.sliceBounds, a1, a2]

theorem popSlice_ok {t : TypeId} {x : Slot} {lo hi : Option Slot} {a : Value} {lv hv : Option Value} {K : Slot → Prop} (H : HR W0 w h m) (hk : popSlice P t x lo hi h K) (hx : LR w h m x a)
    (hlo : ∀ s, lo = some s → ∃ v, lv = some v ∧ LR w h m s v) (hln : lo = none → lv = none) (hhi : ∀ s, hi = some s → ∃ v, hv = some v ∧ LR w h m s v) (hhn : hi = none → hv = none) :
    ∃ v r, (Instr.sliceAt t a lv hv none).run P w = .ok v w ∧ K r ∧ LR w h m r v := by
  unfold popSlice at hk
  split at hk
  · rename_i s hd
    cases hx
    split at hk
    · rename_i l k h1 h2
      obtain ⟨h3, h4, h5, hk⟩ := hk
      have hb := run_sliceBounds (P := P) (isSlice := false) (cap := s.size) hlo hln hhi hhn h1 h2 h3 h4 h5 (Nat.le_refl _)
      refine ⟨_, _, ?_, hk, .val _ rfl⟩
      simp only [Instr.sliceAt, Instr.slice, Sem.run_bind, run_underlying hd, Result.andThen_ok, Option.isSome_none, Bool.false_eq_true, if_false, hb, Sem.run_pure]
    · exact hk.elim
  · rename_i e f sz xs hd
    split at hk
    · rename_i l k h1 h2
      obtain ⟨h3, h4, h5, hs, hk⟩ := hk
      have hlen : ((xs.take k.toNat).drop l.toNat).length = k.toNat - l.toNat := by simp; omega
      cases hx with
      | ro0 _ _ ad c hc =>
        have hb := run_sliceBounds (P := P) (isSlice := true) (cap := c) hlo hln hhi hhn h1 h2 h3 h4 h5 (by simp)
        simp only [List.length_nil] at h5
        have e1 : l = 0 := by omega
        have e2 : k = 0 := by omega
        subst e1; subst e2
        refine ⟨.slice (if c = 0 then ad else ad.map (·.add (0 * sz))) 0 (c - 0), _, ?_, hk, ?_⟩
        · simp only [List.length_nil] at hb
          simp only [Instr.sliceAt, Instr.slice, Sem.run_bind, run_underlying hd, Result.andThen_ok, hb, run_sizeOf' hs, Sem.run_pure]
          rfl
        · exact .ro0 _ _ _ _ (fun e => by cases e)
      | ro _ _ _ g off c n vs hn hc hnc hg hav hlen' hcell hvs =>
        subst hn
        have hb := run_sliceBounds (P := P) (isSlice := true) (cap := c) hlo hln hhi hhn h1 h2 h3 h4 h5 hnc
        refine ⟨.slice (if c = l.toNat then some ⟨g, off, none⟩ else (some (⟨g, off, none⟩ : Addr)).map (·.add (l.toNat * sz))) (k.toNat - l.toNat) (c - l.toNat), _, ?_, hk, ?_⟩
        · simp only [Instr.sliceAt, Instr.slice, Sem.run_bind, run_underlying hd, Result.andThen_ok, hb, run_sizeOf' hs, Sem.run_pure]
        · have hrow : RowAt w h m g off sz xs := fun i es hi => ⟨hlen' i es hi, fun j p hj => ⟨vs i j, hcell i es j p hi hj, hvs i es j p hi hj⟩⟩
          by_cases hcl : c = l.toNat
          · rw [if_pos hcl]
            have hkl : k.toNat - l.toNat = 0 := by omega
            rw [hkl] at hlen ⊢
            rw [List.eq_nil_of_length_eq_zero hlen]
            exact .ro0 _ _ _ _ (fun e => by cases e)
          · rw [if_neg hcl]
            simp only [Option.map_some, addr_add]
            exact VR.ofRow ((hrow.take k.toNat).drop l.toNat) hlen (by omega) (fun e => by cases e) hg hav
    · exact hk.elim
  · rename_i e id ver off len hd
    split at hk
    · rename_i l k b h1 h2 hb0
      obtain ⟨hver, h3, h4, h5, hs, hk⟩ := hk
      cases hx with
      | own _ _ _ _ ad c hid hv' hb' =>
        obtain ⟨q1, q2, q3⟩ := hb' b hb0 hver
        obtain ⟨_, cur, fr, hg, hsz, hle, _⟩ := H.live id b hb0
        have hlc : len ≤ c := by
          by_cases h0 : 0 < len ∨ off = 0
          · obtain ⟨_, rfl⟩ := q3 h0
            omega
          · have : len = 0 := by omega
            omega
        have hb := run_sliceBounds (P := P) (isSlice := true) (cap := c) hlo hln hhi hhn h1 h2 h3 h4 h5 hlc
        refine ⟨.slice (if c = l.toNat then some ad else (some ad).map (·.add (l.toNat * b.sz))) (k.toNat - l.toNat) (c - l.toNat), _, ?_, hk, ?_⟩
        · simp only [Instr.sliceAt, Instr.slice, Sem.run_bind, run_underlying hd, Result.andThen_ok, hb, run_sizeOf' hs, Sem.run_pure]
        · have key : ∀ ad2, (0 < k.toNat - l.toNat ∨ off + l.toNat = 0 → ad2 = ⟨(m id).1, (off + l.toNat) * b.sz, none⟩ ∧ c - l.toNat = (m id).2 - (off + l.toNat)) →
              VR w h m (.own id ver (off + l.toNat) (k.toNat - l.toNat)) (.slice (some ad2) (k.toNat - l.toNat) (c - l.toNat)) := fun ad2 hh =>
            .own _ _ _ _ _ _ hid hv' (fun b2 hb2 _ => by
              obtain rfl := Option.some.inj (hb0.symm.trans hb2)
              exact ⟨by omega, by omega, hh⟩)
          by_cases hcl : c = l.toNat
          · rw [if_pos hcl]
            refine key ad (fun hor => ?_)
            rcases hor with h0 | h0
            · omega
            · obtain ⟨rfl, rfl⟩ := q3 (.inr (by omega))
              have : l.toNat = 0 := by omega
              have : off = 0 := by omega
              subst this
              simp [this]
          · rw [if_neg hcl]
            refine key (ad.add (l.toNat * b.sz)) (fun hor => ?_)
            obtain ⟨rfl, rfl⟩ := q3 (by omega)
            refine ⟨by rw [addr_add, Nat.add_mul], by omega⟩
    · exact hk.elim
  · rename_i e hd
    split at hk
    · rename_i l k h1 h2
      obtain ⟨rfl, rfl, ⟨sz, hs⟩, hk⟩ := hk
      cases hx
      have hb := run_sliceBounds (P := P) (isSlice := true) (len := 0) (cap := 0) hlo hln hhi hhn h1 h2 (Int.le_refl _) (Int.le_refl _) (Int.le_refl _) (Nat.le_refl _)
      refine ⟨_, _, ?_, hk, .val (.slice none 0 0) rfl⟩
      simp only [Instr.sliceAt, Instr.slice, Sem.run_bind, run_underlying hd, Result.andThen_ok, hb, run_sizeOf' hs, Sem.run_pure]
      rfl
    · exact hk.elim
  · exact hk.elim

end
end Go.Pw
