/-
  PW, part A: pure values for machine values, a pure heap for the blocks that calls of the program's own make, and the relation between both and the model's world.
-/
import Derived.ProofKit
import Derived.WalkKit
import Derived.OwnWalk
import Derived.Laws.MakeOwn
import Derived.Laws.OwnMore
namespace Go.Pw
open Go Go.RowKit

/-- A cell's pure value. val: this very value; ro: a slice that is only read (full: no room behind it; the elements' cells); rop: a pointer to cells that are only read;
    own: a slice of a block of the pure heap; ptr: a pointer into such a block; clo: a function value with what it captured; any: unknown. -/
inductive PV where
  | val (v : Value)
  | ro (full : Bool) (sz : Nat) (xs : List (List PV))
  | rop (cs : List PV)
  | own (id ver off len : Nat)
  | ptr (id ver i o : Nat)
  | clo (fn : Fn) (caps : List PV)
  | any

/-- A block of the pure heap: the element's type and size, the elements, how often it may have moved. -/
structure Blk where
  ty : TypeId
  sz : Nat
  es : List (List PV)
  ver : Nat
  plain : Bool

structure Hp where
  blk : Nat → Option Blk
  lim : Nat

/-- Where a block lies: the model's block and its room in elements. -/
abbrev Loc := Nat → Nat × Nat

inductive VR (w : World) (h : Hp) (m : Loc) : PV → Value → Prop
  | val (v : Value) (h1 : v.oneCell' = true) : VR w h m (.val v) v
  | any (v : Value) (h1 : v.oneCell' = true) : VR w h m .any v
  | ro0 (full : Bool) (sz : Nat) (a : Option Addr) (c : Nat) (hc : full = true → c = 0) : VR w h m (.ro full sz []) (.slice a 0 c)
  | ro (full : Bool) (sz : Nat) (xs : List (List PV)) (g off c n : Nat) (vs : Nat → Nat → Value)
      (hn : xs.length = n) (hc : full = true → c = n) (hnc : n ≤ c)
      (hg : g < w.heap.size) (hav : ∀ id b, h.blk id = some b → (m id).1 ≠ g)
      (hlen : ∀ (i : Nat) (es : List PV), xs[i]? = some es → es.length = sz)
      (hcell : ∀ (i : Nat) (es : List PV) (j : Nat) (p : PV), xs[i]? = some es → es[j]? = some p → w.cell? ⟨g, off + i * sz + j, none⟩ = some (vs i j))
      (hvs : ∀ (i : Nat) (es : List PV) (j : Nat) (p : PV), xs[i]? = some es → es[j]? = some p → VR w h m p (vs i j)) :
      VR w h m (.ro full sz xs) (.slice (some ⟨g, off, none⟩) n c)
  | rop (cs : List PV) (g off : Nat) (vs : Nat → Value)
      (hg : g < w.heap.size) (hav : ∀ id b, h.blk id = some b → (m id).1 ≠ g)
      (hcell : ∀ (j : Nat) (p : PV), cs[j]? = some p → w.cell? ⟨g, off + j, none⟩ = some (vs j))
      (hvs : ∀ (j : Nat) (p : PV), cs[j]? = some p → VR w h m p (vs j)) :
      VR w h m (.rop cs) (.pointer (some ⟨g, off, none⟩))
  | own (id ver off len : Nat) (ad : Addr) (c : Nat) (hid : id < h.lim) (hv : ∀ b, h.blk id = some b → ver ≤ b.ver)
      (hb : ∀ b, h.blk id = some b → b.ver = ver → off + len ≤ b.es.length ∧ off ≤ (m id).2 ∧ ((0 < len ∨ off = 0) → ad = ⟨(m id).1, off * b.sz, none⟩ ∧ c = (m id).2 - off)) :
      VR w h m (.own id ver off len) (.slice (some ad) len c)
  | ptr (id ver i o : Nat) (ad : Addr) (hid : id < h.lim) (hv : ∀ b, h.blk id = some b → ver ≤ b.ver)
      (hb : ∀ b, h.blk id = some b → b.ver = ver → ad = ⟨(m id).1, i * b.sz + o, none⟩) :
      VR w h m (.ptr id ver i o) (.pointer (some ad))
  | clo (fn : Fn) (caps : List PV) (vs : List Value) (hl : vs.length = caps.length)
      (hvs : ∀ (j : Nat) (p : PV) (v : Value), caps[j]? = some p → vs[j]? = some v → VR w h m p v) :
      VR w h m (.clo fn caps) (.func fn #[] vs.toArray)

theorem VR.oneCell {w : World} {h : Hp} {m : Loc} {p : PV} {v : Value} (H : VR w h m p v) : v.oneCell' = true := by
  cases H <;> first | assumption | rfl

/-- What of one state of heap and world a later one keeps. -/
structure Ext (w : World) (h : Hp) (m : Loc) (w' : World) (h' : Hp) (m' : Loc) : Prop where
  size : w.heap.size ≤ w'.heap.size
  lim : h.lim ≤ h'.lim
  ro : ∀ g, g < w.heap.size → (∀ id b, h.blk id = some b → (m id).1 ≠ g) → w'.heap[g]? = w.heap[g]? ∧ ∀ id b, h'.blk id = some b → (m' id).1 ≠ g
  keep : ∀ id b', id < h.lim → h'.blk id = some b' → ∃ b, h.blk id = some b ∧ b.ver ≤ b'.ver ∧ (b.ver = b'.ver → m' id = m id ∧ b'.sz = b.sz ∧ b'.es.length = b.es.length)

theorem Ext.refl (w : World) (h : Hp) (m : Loc) : Ext w h m w h m :=
  ⟨Nat.le_refl _, Nat.le_refl _, fun _ _ hg => ⟨rfl, hg⟩, fun _ b' _ hb => ⟨b', hb, Nat.le_refl _, fun _ => ⟨rfl, rfl, rfl⟩⟩⟩

theorem Ext.trans {w w1 w2 : World} {h h1 h2 : Hp} {m m1 m2 : Loc} (a : Ext w h m w1 h1 m1) (b : Ext w1 h1 m1 w2 h2 m2) : Ext w h m w2 h2 m2 := by
  refine ⟨Nat.le_trans a.size b.size, Nat.le_trans a.lim b.lim, fun g hg hav => ?_, fun id b2 hid hb2 => ?_⟩
  · obtain ⟨e1, av1⟩ := a.ro g hg hav
    obtain ⟨e2, av2⟩ := b.ro g (Nat.lt_of_lt_of_le hg a.size) av1
    exact ⟨e2.trans e1, av2⟩
  · obtain ⟨b1, hb1, hv1, hk1⟩ := b.keep id b2 (Nat.lt_of_lt_of_le hid a.lim) hb2
    obtain ⟨b0, hb0, hv0, hk0⟩ := a.keep id b1 hid hb1
    refine ⟨b0, hb0, Nat.le_trans hv0 hv1, fun e => ?_⟩
    obtain ⟨x1, x2, x3⟩ := hk0 (by omega)
    obtain ⟨y1, y2, y3⟩ := hk1 (by omega)
    exact ⟨y1.trans x1, y2.trans x2, y3.trans x3⟩

theorem VR.ext {w w' : World} {h h' : Hp} {m m' : Loc} {p : PV} {v : Value} (H : VR w h m p v) (x : Ext w h m w' h' m') : VR w' h' m' p v := by
  induction H with
  | val v h1 => exact .val v h1
  | any v h1 => exact .any v h1
  | ro0 f sz a c hc => exact .ro0 f sz a c hc
  | ro f sz xs g off c n vs hn hc hnc hg hav hlen hcell hvs ih =>
    obtain ⟨e, av⟩ := x.ro g hg hav
    exact .ro f sz xs g off c n vs hn hc hnc (Nat.lt_of_lt_of_le hg x.size) av hlen (fun i es j p h1 h2 => (World.cell?_of_block (a := ⟨g, off + i * sz + j, none⟩) e).trans (hcell i es j p h1 h2)) ih
  | rop cs g off vs hg hav hcell hvs ih =>
    obtain ⟨e, av⟩ := x.ro g hg hav
    exact .rop cs g off vs (Nat.lt_of_lt_of_le hg x.size) av (fun j p h1 => (World.cell?_of_block (a := ⟨g, off + j, none⟩) e).trans (hcell j p h1)) ih
  | own id ver off len ad c hid hv hb =>
    refine .own id ver off len ad c (Nat.lt_of_lt_of_le hid x.lim) (fun b' hb' => ?_) fun b' hb' hv' => ?_
    · obtain ⟨b, hb0, hle, _⟩ := x.keep id b' hid hb'
      exact Nat.le_trans (hv b hb0) hle
    · obtain ⟨b, hb0, hle, hk⟩ := x.keep id b' hid hb'
      have := hv b hb0
      obtain ⟨k1, k2, k3⟩ := hk (by omega)
      rw [k1, k2, k3]
      exact hb b hb0 (by omega)
  | ptr id ver i o ad hid hv hb =>
    refine .ptr id ver i o ad (Nat.lt_of_lt_of_le hid x.lim) (fun b' hb' => ?_) fun b' hb' hv' => ?_
    · obtain ⟨b, hb0, hle, _⟩ := x.keep id b' hid hb'
      exact Nat.le_trans (hv b hb0) hle
    · obtain ⟨b, hb0, hle, hk⟩ := x.keep id b' hid hb'
      have := hv b hb0
      obtain ⟨k1, k2, k3⟩ := hk (by omega)
      rw [k1, k2]
      exact hb b hb0 (by omega)
  | clo fn caps vs hl hvs ih => exact .clo fn caps vs hl ih

end Go.Pw
