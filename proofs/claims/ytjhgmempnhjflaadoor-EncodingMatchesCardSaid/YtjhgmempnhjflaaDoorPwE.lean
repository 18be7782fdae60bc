/-
  PW, part E: the operations that read and write memory.
-/
import Derived.Test.YtjhgmempnhjflaaDoorPwD
namespace Go.Pw
open Go Go.RowKit

def szOf (P : Program) (t : TypeId) : Option Nat := (P.info? t).map (·.size)
def zeroOf (P : Program) (t : TypeId) : Option Value := (P.info? t).bind (·.zero)
def bytesOf' (P : Program) (t : TypeId) : Option Nat := (P.info? t).map (·.bytes)
def isAggD : TypeDesc → Bool
  | .struct _ | .array _ _ => true
  | _ => false

theorem run_sizeOf' {P : Program} {t : TypeId} {n : Nat} (h : szOf P t = some n) (w : World) : (sizeOf t).run P w = .ok n w := by
  obtain ⟨i, hi, rfl⟩ := Option.map_eq_some_iff.1 h
  simp [sizeOf, typeInfo, hi]

theorem run_isAgg' {P : Program} {t : TypeId} {d : TypeDesc} (h : P.underlying t = some d) (w : World) : (isAgg t).run P w = .ok (isAggD d) w := by
  simp only [isAgg, Sem.run_bind, run_underlying h, Result.andThen_ok]
  cases d <;> rfl

theorem run_zeroValue {P : Program} {t : TypeId} {v : Value} (h : zeroOf P t = some v) (w : World) : (zeroValue t).run P w = .ok v w := by
  unfold zeroOf at h
  obtain ⟨i, hi, hz⟩ := Option.bind_eq_some_iff.1 h
  simp [zeroValue, typeInfo, hi, hz]

theorem addr_add (g o n : Nat) : (⟨g, o, none⟩ : Addr).add n = ⟨g, o + n, none⟩ := by unfold Addr.add; split <;> simp_all

/-- What an operation leaves. -/
def OpOut (W0 w : World) (h : Hp) (m : Loc) (N : Slot → Hp → Prop) (v : Value) (w' : World) : Prop :=
  ∃ r h' m', N r h' ∧ LR w' h' m' r v ∧ HR W0 w' h' m' ∧ Ext w h m w' h' m'

section
variable {P : Program} {W0 w : World} {h : Hp} {m : Loc} {N : Slot → Hp → Prop}

theorem OpOut.same (H : HR W0 w h m) {r : Slot} {v : Value} (hn : N r h) (hr : LR w h m r v) : OpOut W0 w h m N v w := ⟨r, h, m, hn, hr, H, Ext.refl _ _ _⟩

/-- These cells lie there. -/
def CellsAt (w : World) (h : Hp) (m : Loc) (g off : Nat) (ps : List PV) : Prop :=
  ∀ (j : Nat) (p : PV), ps[j]? = some p → ∃ u, w.cell? ⟨g, off + j, none⟩ = some u ∧ VR w h m p u

theorem CellsAt.list {g off : Nat} {ps : List PV} (H : CellsAt w h m g off ps) :
    ∃ cs : List Value, cs.length = ps.length ∧ (∀ (j : Nat) (u : Value), cs[j]? = some u → w.cell? ⟨g, off + j, none⟩ = some u) ∧ ∀ (j : Nat) (p : PV) (u : Value), ps[j]? = some p → cs[j]? = some u → VR w h m p u := by
  induction ps generalizing off with
  | nil => exact ⟨[], rfl, fun j u hj => by simp at hj, fun j p u hj => by simp at hj⟩
  | cons p ps ih =>
    obtain ⟨u, hu, hr⟩ := H 0 p rfl
    obtain ⟨cs, hl, hc, hv⟩ := ih (off := off + 1) (fun j q hj => by have := H (j + 1) q (by simpa using hj); rwa [show off + (j + 1) = off + 1 + j by omega] at this)
    refine ⟨u :: cs, by simp [hl], fun j x hj => ?_, fun j q x hj hx => ?_⟩
    · cases j with
      | zero => simp at hj; subst hj; simpa using hu
      | succ j => rw [show off + (j + 1) = off + 1 + j by omega]; exact hc j x (by simpa using hj)
    · cases j with
      | zero => simp at hj hx; subst hj; subst hx; exact hr
      | succ j => exact hv j q x (by simpa using hj) (by simpa using hx)

theorem CellsAt.drop {g off : Nat} {ps : List PV} (H : CellsAt w h m g off ps) (o : Nat) : CellsAt w h m g (off + o) (ps.drop o) := fun j p hj => by
  have := H (o + j) p (by simpa [List.getElem?_drop] using hj)
  rwa [← Nat.add_assoc] at this

theorem CellsAt.take {g off : Nat} {ps : List PV} (H : CellsAt w h m g off ps) (k : Nat) : CellsAt w h m g off (ps.take k) := fun j p hj => by
  refine H j p ?_
  rw [List.getElem?_take] at hj
  split at hj
  · exact hj
  · cases hj

/-- A value of this type out of these cells. -/
def loadK (P : Program) (t : TypeId) (ps : List PV) (N : Slot → Prop) : Prop :=
  match P.underlying t with
  | some d =>
    if isAggD d then (match szOf P t with | some sz => sz ≤ ps.length ∧ N (.sv (.agg (ps.take sz))) | none => False)
    else (match ps with | p :: _ => N (.sv (.one p)) | [] => False)
  | none => False

theorem loadK_ok {t : TypeId} {ps : List PV} {N : Slot → Prop} {g off : Nat} (H : loadK P t ps N) (C : CellsAt w h m g off ps) :
    ∃ v r, (loadVar t ⟨g, off, none⟩).run P w = .ok v w ∧ N r ∧ LR w h m r v := by
  unfold loadK at H
  split at H
  · rename_i d hd
    split at H
    · rename_i ha
      split at H
      · rename_i sz hs
        obtain ⟨hle, hN⟩ := H
        obtain ⟨cs, hl, hc, hv⟩ := (C.take sz).list
        have hlen : cs.length = sz := by rw [hl, List.length_take]; omega
        have hrun := run_loadCells_list (P := P) w ⟨g, off, none⟩ cs (fun j u hj => by rw [addr_add]; exact hc j u hj)
        refine ⟨.agg cs.toArray, _, ?_, hN, cs, rfl, hl, hv⟩
        rw [hlen] at hrun
        simp only [loadVar, Sem.run_bind, run_isAgg' hd, Result.andThen_ok, ha, if_true, run_sizeOf' hs, hrun, Sem.run_pure]
      · exact H.elim
    · rename_i ha
      split at H
      · rename_i p rest
        obtain ⟨u, hu, hr⟩ := C 0 p rfl
        refine ⟨u, _, ?_, H, hr⟩
        simp only [Nat.add_zero] at hu
        have ha' : isAggD d = false := by simpa using ha
        simp only [loadVar, Sem.run_bind, run_isAgg' hd, Result.andThen_ok, ha', run_load, hu, Bool.false_eq_true, if_false]
      · exact H.elim
  · exact H.elim

def popLoad (P : Program) (W0 : World) (t : TypeId) (x : Slot) (h : Hp) (N : Slot → Hp → Prop) : Prop :=
  match x with
  | .sv (.one (.rop cs)) => loadK P t cs (fun s => N s h)
  | .sv (.one (.ptr id ver i o)) =>
    match h.blk id with
    | some b => b.ver = ver ∧ (match b.es[i]? with | some es => loadK P t (es.drop o) (fun s => N s h) | none => False)
    | none => False
  | .sv (.one (.val (.pointer (some a)))) =>
    a.spot = none ∧ ∃ cs : List Value, (∀ (j : Nat) (u : Value), cs[j]? = some u → W0.cell? ⟨a.block, a.off + j, none⟩ = some u ∧ u.oneCell' = true) ∧ loadK P t (cs.map .val) (fun s => N s h)
  | _ => False

/-- The cells of an element of a block of the pure heap. -/
theorem HR.cellsAt (H : HR W0 w h m) {id : Nat} {b : Blk} (hb : h.blk id = some b) {i : Nat} {es : List PV} (he : b.es[i]? = some es) : CellsAt w h m (m id).1 (i * b.sz) es := by
  obtain ⟨_, cur, fr, hg, hsz, _, _, _, _, hc⟩ := H.live id b hb
  intro j p hj
  obtain ⟨v, hv, hr⟩ := (hc i es he).2 j p hj
  exact ⟨v, by rw [cell_of_row w _ _ cur b.ty fr hg]; exact hv, hr⟩

theorem popLoad_ok {t : TypeId} {x : Slot} {a : Value} (H : HR W0 w h m) (K : popLoad P W0 t x h N) (hx : LR w h m x a) :
    ∃ v, (Instr.loadAt t a).run P w = .ok v w ∧ OpOut W0 w h m N v w := by
  unfold popLoad at K
  split at K
  · rename_i cs
    cases hx with
    | rop _ g off vs hg hav hcell hvs =>
      obtain ⟨v, r, h1, h2, h3⟩ := loadK_ok (P := P) K (fun j p hj => ⟨vs j, hcell j p hj, hvs j p hj⟩)
      exact ⟨v, by simpa [Instr.loadAt, Instr.sureAddr] using h1, OpOut.same H h2 h3⟩
  · rename_i id ver i o
    split at K
    · rename_i b hb
      obtain ⟨hver, K⟩ := K
      split at K
      · rename_i es he
        cases hx with
        | ptr _ _ _ _ ad hid hv hb' =>
          have e := hb' b hb hver
          subst e
          obtain ⟨v, r, h1, h2, h3⟩ := loadK_ok (P := P) K ((H.cellsAt hb he).drop o)
          exact ⟨v, by simpa [Instr.loadAt, Instr.sureAddr] using h1, OpOut.same H h2 h3⟩
      · exact K.elim
    · exact K.elim
  · rename_i ad
    obtain ⟨hsp, cs, hcs, K⟩ := K
    cases hx with
    | val _ _ =>
      obtain ⟨blk, off, spot⟩ := ad
      simp only at hsp hcs
      subst hsp
      have C : CellsAt w h m blk off (cs.map .val) := by
        intro j p hj
        rw [List.getElem?_map] at hj
        obtain ⟨u, hu, rfl⟩ := Option.map_eq_some_iff.1 hj
        obtain ⟨h1, h2⟩ := hcs j u hu
        refine ⟨u, ?_, .val u h2⟩
        rw [H.below.cell (World.block_lt_of_cell? W0 _ h1)]
        exact h1
      obtain ⟨v, r, h1, h2, h3⟩ := loadK_ok (P := P) K C
      exact ⟨v, by simpa [Instr.loadAt, Instr.sureAddr] using h1, OpOut.same H h2 h3⟩
  · exact K.elim

/-- The cells that a slot's value takes. -/
def slotCells : Slot → Option (List PV)
  | .sv (.one p) => some [p]
  | .sv (.agg ps) => some ps
  | _ => none

theorem slotCells_ok {x : Slot} {a : Value} {ps : List PV} (hx : LR w h m x a) (hc : slotCells x = some ps) :
    ∃ cs : List Value, a.cells = cs.toArray ∧ cs.length = ps.length ∧ (∀ u ∈ cs, u.oneCell' = true) ∧ ∀ (j : Nat) (p : PV) (u : Value), ps[j]? = some p → cs[j]? = some u → VR w h m p u := by
  unfold slotCells at hc
  split at hc
  · rename_i p
    obtain rfl := Option.some.inj hc
    have h1 := VR.oneCell hx
    refine ⟨[a], ?_, rfl, by simpa using h1, fun j q u hj hu => ?_⟩
    · cases a <;> first | rfl | (simp [Value.oneCell'] at h1)
    · cases j with
      | zero => simp at hj hu; subst hj; subst hu; exact hx
      | succ j => simp at hj
  · rename_i ps'
    obtain rfl := Option.some.inj hc
    obtain ⟨vs, rfl, hl, hv⟩ := hx
    refine ⟨vs, rfl, hl, fun u hu => ?_, hv⟩
    obtain ⟨j, hj, rfl⟩ := List.getElem_of_mem hu
    exact VR.oneCell (hv j (ps'[j]'(by omega)) vs[j] (List.getElem?_eq_getElem _) (List.getElem?_eq_getElem _))
  · cases hc

theorem run_storeCells_fr (g o : Nat) (t : TypeId) (fr : Nat × Nat) : ∀ (vs : List Value) (i : Nat) (cur : Array Value) (w : World), w.heap[g]? = some (.cells cur t fr) → (fr.2 ≤ fr.1 ∨ cur.size ≤ fr.1) → o + i + vs.length ≤ cur.size → (∀ v ∈ vs, v.oneCell' = true) →
    (storeCells ⟨g, o, none⟩ vs i).run P w = .ok () (w.setRow g (cur.toList.take (o + i) ++ vs ++ cur.toList.drop (o + i + vs.length)).toArray)
  | [], i, cur, w, hg, _, _, _ => by
    simp only [storeCells, List.append_nil, List.length_nil, Nat.add_zero, List.take_append_drop, Array.toArray_toList]
    rw [setRow_self w g cur t fr hg]
    rfl
  | v :: rest, i, cur, w, hg, hf, hl, h1 => by
    have hi : o + i < cur.size := by simp at hl; omega
    have hcell : w.cell? ⟨g, o + i, none⟩ = some cur[o + i] := by simp [World.cell?, hg, hi]
    have hfro : w.frozen? ⟨g, o + i, none⟩ = false := by
      obtain ⟨lo, hi'⟩ := fr
      simp only at hf
      simp only [World.frozen?, hg, Bool.and_eq_false_iff, decide_eq_false_iff_not]
      omega
    have hst : (store ((⟨g, o, none⟩ : Addr).add i) v).run P w = .ok () (w.setRow g (cur.setIfInBounds (o + i) v)) := by
      rw [addr_add, run_store P w _ v _ (h1 v (by simp)), hcell]
      simp [hfro, setCell_eq_setRow w g (o + i) cur t fr v hg]
    have ih := run_storeCells_fr g o t fr rest (i + 1) (cur.setIfInBounds (o + i) v) (w.setRow g (cur.setIfInBounds (o + i) v)) (setRow_heap w g cur _ t _ hg) (by simpa using hf) (by simp at hl ⊢; omega) (fun x hx => h1 x (by simp [hx]))
    simp only [storeCells, Sem.run_bind, hst, Result.andThen_ok, ih, setRow_setRow]
    congr 3
    have e := list_seg_step cur.toList (o + i) v rest (by simp at hl ⊢; omega)
    simpa [Array.toList_setIfInBounds, Nat.add_assoc] using e

/-- A list with a piece of it replaced. -/
def splice {α : Type} (l : List α) (o : Nat) (ps : List α) : List α := l.take o ++ ps ++ l.drop (o + ps.length)

def popStore (P : Program) (t : TypeId) (x y : Slot) (h : Hp) (N : Slot → Hp → Prop) : Prop :=
  match x with
  | .sv (.one (.ptr id ver i o)) =>
    match h.blk id with
    | some b => b.ver = ver ∧ (match b.es[i]? with
      | some es => (match slotCells y with
        | some ps => szOf P t = some ps.length ∧ o + ps.length ≤ es.length ∧ N (.tup []) (h.set id { b with es := b.es.set i (splice es o ps) })
        | none => False)
      | none => False)
    | none => False
  | _ => False

end
end Go.Pw
