/-
  PW, part G: rows: len, indexing, slicing, fields, new slices.
-/
import Derived.Test.YtjhgmempnhjflaaDoorPwF
import Derived.Great.BuildSlice
namespace Go.Pw
open Go Go.RowKit

/-- Elements side by side. -/
def RowAt (w : World) (h : Hp) (m : Loc) (g off sz : Nat) (xs : List (List PV)) : Prop :=
  ∀ (i : Nat) (es : List PV), xs[i]? = some es → es.length = sz ∧ CellsAt w h m g (off + i * sz) es

section
variable {P : Program} {W0 w : World} {h : Hp} {m : Loc} {N : Slot → Hp → Prop}

theorem RowAt.tail {g off sz : Nat} {es : List PV} {xs : List (List PV)} (H : RowAt w h m g off sz (es :: xs)) : RowAt w h m g (off + sz) sz xs := fun i e hi => by
  have := H (i + 1) e (by simpa using hi)
  rwa [Nat.add_mul, Nat.one_mul, show off + (i * sz + sz) = off + sz + i * sz by omega] at this

theorem RowAt.list {g off sz : Nat} {xs : List (List PV)} (H : RowAt w h m g off sz xs) :
    ∃ cs : List Value, cs.length = xs.length * sz ∧ (∀ (k : Nat) (u : Value), cs[k]? = some u → w.cell? ⟨g, off + k, none⟩ = some u) ∧ (∀ u ∈ cs, u.oneCell' = true) ∧
      ∀ (i : Nat) (es : List PV) (j : Nat) (p : PV), xs[i]? = some es → es[j]? = some p → ∃ u, cs[i * sz + j]? = some u ∧ VR w h m p u := by
  induction xs generalizing off with
  | nil => exact ⟨[], by simp, fun k u hk => by simp at hk, by simp, fun i es j p hi => by simp at hi⟩
  | cons es xs ih =>
    obtain ⟨h1, h2⟩ := H 0 es rfl
    simp only [Nat.zero_mul, Nat.add_zero] at h2
    obtain ⟨a, al, ac, av⟩ := h2.list
    obtain ⟨b, bl, bc, b1, bv⟩ := ih H.tail
    refine ⟨a ++ b, ?_, fun k u hk => ?_, fun u hu => ?_, fun i e j p hi hj => ?_⟩
    · rw [List.length_append, al, bl, h1, List.length_cons, Nat.add_mul]; omega
    · rw [List.getElem?_append] at hk
      split at hk
      · exact ac k u hk
      · rename_i hlt
        have := bc _ u hk
        rwa [show off + sz + (k - a.length) = off + k by omega] at this
    · rcases List.mem_append.1 hu with hu | hu
      · obtain ⟨j, hj, rfl⟩ := List.getElem_of_mem hu
        exact VR.oneCell (av j (es[j]'(by omega)) a[j] (List.getElem?_eq_getElem _) (List.getElem?_eq_getElem _))
      · exact b1 u hu
    · cases i with
      | zero =>
        simp at hi
        subst hi
        have hlt : j < a.length := by have := (List.getElem?_eq_some_iff.1 hj).1; omega
        refine ⟨a[j], ?_, av j p a[j] hj (List.getElem?_eq_getElem _)⟩
        rw [Nat.zero_mul, Nat.zero_add, List.getElem?_append_left hlt]
        exact List.getElem?_eq_getElem _
      | succ i =>
        obtain ⟨u, hu, hr⟩ := bv i e j p (by simpa using hi) hj
        refine ⟨u, ?_, hr⟩
        rw [List.getElem?_append_right (by rw [Nat.add_mul]; omega), show (i + 1) * sz + j - a.length = i * sz + j by rw [Nat.add_mul]; omega]
        exact hu

theorem RowAt.drop {g off sz : Nat} {xs : List (List PV)} (H : RowAt w h m g off sz xs) (k : Nat) : RowAt w h m g (off + k * sz) sz (xs.drop k) := fun i e hi => by
  have := H (k + i) e (by simpa [List.getElem?_drop] using hi)
  rwa [Nat.add_mul, ← Nat.add_assoc] at this

theorem RowAt.take {g off sz : Nat} {xs : List (List PV)} (H : RowAt w h m g off sz xs) (k : Nat) : RowAt w h m g off sz (xs.take k) := fun i e hi => by
  refine H i e ?_
  rw [List.getElem?_take] at hi
  split at hi
  · exact hi
  · cases hi

theorem VR.ofRow {full : Bool} {g off sz c n : Nat} {xs : List (List PV)} (H : RowAt w h m g off sz xs) (hn : xs.length = n) (hnc : n ≤ c) (hc : full = true → c = n) (hg : g < w.heap.size)
    (hav : ∀ id b, h.blk id = some b → (m id).1 ≠ g) : VR w h m (.ro full sz xs) (.slice (some ⟨g, off, none⟩) n c) := by
  obtain ⟨cs, hl, hcell, _, hv⟩ := H.list
  refine .ro full sz xs g off c n (fun i j => cs.getD (i * sz + j) undef) hn hc hnc hg hav (fun i es hi => (H i es hi).1) (fun i es j p hi hj => ?_) (fun i es j p hi hj => ?_)
  · obtain ⟨u, hu, _⟩ := hv i es j p hi hj
    rw [List.getD_eq_getElem?_getD, hu, Option.getD_some, Nat.add_assoc]
    exact hcell _ u hu
  · obtain ⟨u, hu, hr⟩ := hv i es j p hi hj
    rw [List.getD_eq_getElem?_getD, hu]
    exact hr

theorem HR.rowAt (H : HR W0 w h m) {id : Nat} {b : Blk} (hb : h.blk id = some b) : RowAt w h m (m id).1 0 b.sz b.es := fun i es hi => by
  obtain ⟨h0, cur, fr, hg, hsz, _, _, _, _, hc⟩ := H.live id b hb
  refine ⟨(hc i es hi).1, ?_⟩
  rw [Nat.zero_add]
  exact H.cellsAt hb hi

/-- What a slice holds. -/
def srcOf (h : Hp) (x : Slot) : Option (Nat × List (List PV)) :=
  match x with
  | .sv (.one (.ro _ sz xs)) => some (sz, xs)
  | .sv (.one (.own id ver off len)) => match h.blk id with
    | some b => if b.ver = ver then some (b.sz, (b.es.drop off).take len) else none
    | none => none
  | .sv (.one (.val (.slice none 0 0))) => some (0, [])
  | _ => none

theorem srcOf_ok {x : Slot} {a : Value} {sz : Nat} {xs : List (List PV)} (H : HR W0 w h m) (hs : srcOf h x = some (sz, xs)) (hx : LR w h m x a) :
    ∃ ad c, a = .slice ad xs.length c ∧ xs.length ≤ c ∧ (xs = [] ∨ ∃ g off, ad = some ⟨g, off, none⟩ ∧ RowAt w h m g off sz xs) ∧ (ad = none → xs = []) := by
  unfold srcOf at hs
  split at hs
  · obtain ⟨rfl, rfl⟩ := Prod.mk.inj (Option.some.inj hs)
    cases hx with
    | ro0 => exact ⟨_, _, rfl, Nat.zero_le _, .inl rfl, fun _ => rfl⟩
    | ro _ _ _ g off c n vs hn hc hnc hg hav hlen hcell hvs =>
      subst hn
      exact ⟨_, _, rfl, hnc, .inr ⟨g, off, rfl, fun i es hi => ⟨hlen i es hi, fun j p hj => ⟨vs i j, hcell i es j p hi hj, hvs i es j p hi hj⟩⟩⟩, fun e => by cases e⟩
  · rename_i id ver off len
    split at hs
    · rename_i b hb
      split at hs
      · rename_i hver
        obtain ⟨rfl, rfl⟩ := Prod.mk.inj (Option.some.inj hs)
        cases hx with
        | own _ _ _ _ ad c hid hv hb' =>
          obtain ⟨h1, h2, h3⟩ := hb' b hb hver
          have hlen : ((b.es.drop off).take len).length = len := by simp; omega
          obtain ⟨_, cur, fr, hg, hsz, hle, _⟩ := H.live id b hb
          by_cases h0 : len = 0
          · subst h0
            exact ⟨some ad, c, by rw [hlen], by rw [hlen]; exact Nat.zero_le _, .inl (by simp), fun e => by cases e⟩
          · obtain ⟨rfl, rfl⟩ := h3 (.inl (by omega))
            refine ⟨_, _, by rw [hlen], by rw [hlen]; omega, .inr ⟨(m id).1, off * b.sz, rfl, ?_⟩, fun e => by cases e⟩
            have := ((H.rowAt hb).drop off).take len
            rwa [Nat.zero_add] at this
      · cases hs
    · cases hs
  · obtain ⟨rfl, rfl⟩ := Prod.mk.inj (Option.some.inj hs)
    cases hx
    exact ⟨none, 0, rfl, Nat.le_refl _, .inl rfl, fun _ => rfl⟩
  · cases hs

def lenOfSlot (x : Slot) : Option Nat :=
  match x with
  | .sv (.one (.ro _ _ xs)) => some xs.length
  | .sv (.one (.own _ _ _ len)) => some len
  | .sv (.one (.val (.slice _ n _))) => some n
  | _ => none

theorem lenOfSlot_ok {x : Slot} {a : Value} {n : Nat} (hs : lenOfSlot x = some n) (hx : LR w h m x a) : ∃ ad c, a = .slice ad n c := by
  unfold lenOfSlot at hs
  split at hs
  · obtain rfl := Option.some.inj hs
    cases hx with
    | ro0 => exact ⟨_, _, rfl⟩
    | ro _ _ _ g off c n vs hn => subst hn; exact ⟨_, _, rfl⟩
  · obtain rfl := Option.some.inj hs
    cases hx
    exact ⟨_, _, rfl⟩
  · obtain rfl := Option.some.inj hs
    cases hx
    exact ⟨_, _, rfl⟩
  · cases hs

def popLen (P : Program) (t : TypeId) (x : Slot) (N : Value → Prop) : Prop :=
  match P.underlying t with
  | some .string => (match x with | .sv (.one (.val (.string s))) => N (.int .i64 s.size) | _ => False)
  | some (.array n _) => N (.int .i64 n)
  | some (.slice _) => (match lenOfSlot x with | some n => N (.int .i64 n) | none => False)
  | _ => False

theorem popLen_ok {t ty : TypeId} {x : Slot} {a : Value} {K : Value → Prop} (hk : popLen P t x K) (hx : LR w h m x a) :
    ∃ v, K v ∧ v.oneCell' = true ∧ (Builtin.len_ #[t] ty #[a]).run P w = .ok v w := by
  unfold popLen at hk
  split at hk
  · rename_i hd
    split at hk
    · cases hx
      exact ⟨_, hk, rfl, by simp [Builtin.len_, run_underlying hd, goInt]⟩
    · exact hk.elim
  · rename_i n e hd
    exact ⟨_, hk, rfl, by simp [Builtin.len_, run_underlying hd, goInt]⟩
  · rename_i e hd
    split at hk
    · rename_i n hn
      obtain ⟨ad, c, rfl⟩ := lenOfSlot_ok hn hx
      exact ⟨_, hk, rfl, by simp [Builtin.len_, run_underlying hd, goInt]⟩
    · exact hk.elim
  · exact hk.elim

/-- A part of an aggregate. -/
def partK (P : Program) (t : TypeId) (ps : List PV) (off : Nat) (N : Slot → Prop) : Prop :=
  match P.underlying t with
  | some d =>
    if isAggD d then (match szOf P t with | some sz => off + sz ≤ ps.length ∧ N (.sv (.agg ((ps.drop off).take sz))) | none => False)
    else (match ps[off]? with | some p => N (.sv (.one p)) | none => False)
  | none => False

theorem partK_ok {t : TypeId} {ps : List PV} {off : Nat} {K : Slot → Prop} {vs : List Value} (hk : partK P t ps off K) (hl : vs.length = ps.length)
    (hv : ∀ (j : Nat) (p : PV) (u : Value), ps[j]? = some p → vs[j]? = some u → VR w h m p u) :
    ∃ v r, (part t vs.toArray off).run P w = .ok v w ∧ K r ∧ LR w h m r v := by
  unfold partK at hk
  split at hk
  · rename_i d hd
    split at hk
    · rename_i ha
      split at hk
      · rename_i sz hs
        obtain ⟨hle, hN⟩ := hk
        refine ⟨.agg ((vs.drop off).take sz).toArray, _, ?_, hN, _, rfl, by simp; omega, fun j p u hj hu => ?_⟩
        · simp only [part, Sem.run_bind, run_isAgg' hd, Result.andThen_ok, ha, if_true, run_sizeOf' hs, Sem.run_pure]
          congr 2
          apply Array.ext'
          simp
        · rw [List.getElem?_take] at hj hu
          split at hj
          · rename_i hlt
            rw [if_pos hlt] at hu
            rw [List.getElem?_drop] at hj hu
            exact hv _ p u hj hu
          · cases hj
      · exact hk.elim
    · rename_i ha
      split at hk
      · rename_i p hp
        have hlt : off < vs.length := by have := (List.getElem?_eq_some_iff.1 hp).1; omega
        have ha' : isAggD d = false := by simpa using ha
        refine ⟨vs[off], _, ?_, hk, hv off p vs[off] hp (List.getElem?_eq_getElem hlt)⟩
        simp [part, run_isAgg' hd, ha', hlt]
      · exact hk.elim
  · exact hk.elim

def fieldOf (P : Program) (t : TypeId) (f : Nat) : Option Field :=
  match P.underlying t with
  | some (.struct fs) => fs[f]?
  | _ => none

theorem fieldOf_ok {t : TypeId} {f : Nat} {fd : Field} (hf : fieldOf P t f = some fd) : ∃ fs, P.underlying t = some (.struct fs) ∧ fs[f]? = some fd := by
  unfold fieldOf at hf
  split at hf
  · rename_i fs hd
    exact ⟨fs, hd, hf⟩
  · cases hf

def popField (P : Program) (t : TypeId) (x : Slot) (f : Nat) (N : Slot → Prop) : Prop :=
  match x, fieldOf P t f with
  | .sv (.agg ps), some fd => partK P fd.type ps fd.offset N
  | _, _ => False

theorem popField_ok {t : TypeId} {x : Slot} {f : Nat} {a : Value} {K : Slot → Prop} (hk : popField P t x f K) (hx : LR w h m x a) :
    ∃ v r, (Instr.field t a f).run P w = .ok v w ∧ K r ∧ LR w h m r v := by
  unfold popField at hk
  split at hk
  · rename_i ps fd hf
    obtain ⟨fs, hd, hfs⟩ := fieldOf_ok hf
    obtain ⟨vs, rfl, hl, hv⟩ := hx
    obtain ⟨v, r, h1, h2, h3⟩ := partK_ok (P := P) hk hl hv
    refine ⟨v, r, ?_, h2, h3⟩
    simp only [Instr.field, Sem.run_bind, run_underlying hd, Result.andThen_ok, hfs, asAgg, Sem.run_pure, h1]
  · exact hk.elim

def popFieldAddr (P : Program) (t : TypeId) (x : Slot) (f : Nat) (N : Slot → Prop) : Prop :=
  match fieldOf P t f with
  | some fd => (∃ n, szOf P fd.type = some (n + 1)) ∧ (match x with
    | .sv (.one (.ptr id ver i o)) => N (.sv (.one (.ptr id ver i (o + fd.offset))))
    | .sv (.one (.rop cs)) => N (.sv (.one (.rop (cs.drop fd.offset))))
    | .sv (.one (.val (.pointer (some a)))) => a.spot = none ∧ N (.sv (.one (.val (.pointer (some ⟨a.block, a.off + fd.offset, none⟩)))))
    | _ => False)
  | none => False

theorem popFieldAddr_ok {t : TypeId} {x : Slot} {f : Nat} {a : Value} {K : Slot → Prop} (hk : popFieldAddr P t x f K) (hx : LR w h m x a) :
    ∃ v r, (Instr.fieldAt t a f).run P w = .ok v w ∧ K r ∧ LR w h m r v := by
  unfold popFieldAddr at hk
  split at hk
  · rename_i fd hf
    obtain ⟨⟨n, hn⟩, hk⟩ := hk
    obtain ⟨fs, hd, hfs⟩ := fieldOf_ok hf
    have run : ∀ ad : Addr, (Instr.fieldAt t (.pointer (some ad)) f).run P w = .ok (.pointer (some (ad.add fd.offset))) w := fun ad => by
      simp [Instr.fieldAt, run_underlying hd, hfs, Instr.sureAddr, fieldPlace, run_sizeOf' hn]
    split at hk
    · rename_i id ver i o
      cases hx with
      | ptr _ _ _ _ ad hid hv hb =>
        refine ⟨_, _, run ad, hk, ?_⟩
        exact .ptr _ _ _ _ _ hid hv (fun b h1 h2 => by rw [hb b h1 h2, addr_add, Nat.add_assoc])
    · rename_i cs
      cases hx with
      | rop _ g off vs hg hav hcell hvs =>
        refine ⟨_, _, run _, hk, ?_⟩
        rw [addr_add]
        refine .rop _ g _ (fun j => vs (fd.offset + j)) hg hav (fun j p hj => ?_) (fun j p hj => ?_)
        · rw [List.getElem?_drop] at hj
          have := hcell _ p hj
          rwa [← Nat.add_assoc] at this
        · rw [List.getElem?_drop] at hj
          exact hvs _ p hj
    · rename_i ad
      obtain ⟨hs, hk⟩ := hk
      cases hx
      refine ⟨_, _, run ad, hk, ?_⟩
      obtain ⟨b, o, s⟩ := ad
      simp only at hs
      subst hs
      rw [addr_add]
      exact .val _ rfl
    · exact hk.elim
  · exact hk.elim

end
end Go.Pw
