/- Own work: part of the proof of the row YtlghclplgbijjaaDoorRowFilterChecksUpto; no condition of its own. -/
import Derived.ProofKit
import Derived.WalkKit
import Derived.OwnWalk
import Derived.Laws.MakeOwn
import Derived.Laws.OwnMore
import Derived.Deep.LoopGhost
namespace Go.Pw
open Go Go.RowKit
def Drawn : Prop := False
structure Below (B : Nat) (w w' : World) : Prop extends Go.RowKit.Below B w w' where
  drawn : Drawn → w.drawn ≤ w'.drawn
theorem Below.lift {B : Nat} {w w' : World} (h : Go.RowKit.Below B w w') : Below B w w' := ⟨h, fun d => d.elim⟩
theorem Below.refl (B : Nat) (w : World) : Below B w w := ⟨Go.RowKit.Below.refl B w, fun _ => Nat.le_refl _⟩
theorem Below.trans {B : Nat} {a b c : World} (h : Below B a b) (k : Below B b c) : Below B a c := ⟨h.toBelow.trans k.toBelow, fun d => Nat.le_trans (h.drawn d) (k.drawn d)⟩
theorem Below.mono {B B' : Nat} {w w' : World} (h : Below B w w') (hB : B' ≤ B) : Below B' w w' := ⟨h.toBelow.mono hB, h.drawn⟩
theorem Below.drew {B : Nat} {a w : World} (h : Below B a w) : Below B a w.drew := ⟨h.toBelow.drew, fun d => Nat.le_trans (h.drawn d) (Nat.le_succ _)⟩
theorem Below.alloc {B : Nat} {a w : World} (h : Below B a w) (hB : B ≤ w.heap.size) (o : Obj) : Below B a (w.alloc o) := ⟨h.toBelow.alloc hB o, h.drawn⟩
inductive PV where
  | val (v : Value)
  | ro (full : Bool) (sz : Nat) (xs : List (List PV))
  | rop (cs : List PV)
  | own (id ver off len : Nat)
  | ptr (id ver i o : Nat)
  | clo (fn : Fn) (caps : List PV)
  | ifc (t : TypeId) (agg : Bool) (ps : List PV)
  | ifn
  | mp (es : List (Value × Value))
  | any
structure Blk where
  ty : TypeId
  sz : Nat
  es : List (List PV)
  ver : Nat
  plain : Bool
structure Hp where
  blk : Nat → Option Blk
  lim : Nat
abbrev Loc := Nat → Nat × Nat
inductive VR (w : World) (h : Hp) (m : Loc) : PV → Value → Prop
  | val (v : Value) (h1 : v.oneCell' = true) : VR w h m (.val v) v
  | any (v : Value) (h1 : v.oneCell' = true) : VR w h m .any v
  | ro0 (full : Bool) (sz : Nat) (a : Option Addr) (c : Nat) (hc : full = true → c = 0) : VR w h m (.ro full sz []) (.slice a 0 c)
  | ro (full : Bool) (sz : Nat) (xs : List (List PV)) (g off c n : Nat) (vs : Nat → Nat → Value)
      (hn : xs.length = n) (hc : full = true → c = n) (hnc : n ≤ c)
      (hg : g < w.heap.size) (hav : ∀ id b, h.blk id = some b → (m id).1 ≠ g)
      (hlen : ∀ (i : Nat) (es : List PV), xs[i]? = some es → es.length = sz)
      (hcell : ∀ (i : Nat) (es : List PV) (j : Nat) (p : PV), xs[i]? = some es → es[j]? = some p → w.cell? ⟨g, off + i * sz + j, none⟩ = some (vs i j))
      (hvs : ∀ (i : Nat) (es : List PV) (j : Nat) (p : PV), xs[i]? = some es → es[j]? = some p → VR w h m p (vs i j)) :
      VR w h m (.ro full sz xs) (.slice (some ⟨g, off, none⟩) n c)
  | rop (cs : List PV) (g off : Nat) (vs : Nat → Value)
      (hg : g < w.heap.size) (hav : ∀ id b, h.blk id = some b → (m id).1 ≠ g)
      (hcell : ∀ (j : Nat) (p : PV), cs[j]? = some p → w.cell? ⟨g, off + j, none⟩ = some (vs j))
      (hvs : ∀ (j : Nat) (p : PV), cs[j]? = some p → VR w h m p (vs j)) :
      VR w h m (.rop cs) (.pointer (some ⟨g, off, none⟩))
  | own (id ver off len : Nat) (ad : Addr) (c : Nat) (hid : id < h.lim) (hv : ∀ b, h.blk id = some b → ver ≤ b.ver)
      (hb : ∀ b, h.blk id = some b → b.ver = ver → off + len ≤ b.es.length ∧ off ≤ (m id).2 ∧ ((0 < len ∨ off = 0) → ad = ⟨(m id).1, off * b.sz, none⟩ ∧ c = (m id).2 - off)) :
      VR w h m (.own id ver off len) (.slice (some ad) len c)
  | ptr (id ver i o : Nat) (ad : Addr) (hid : id < h.lim) (hv : ∀ b, h.blk id = some b → ver ≤ b.ver)
      (hb : ∀ b, h.blk id = some b → b.ver = ver → ad = ⟨(m id).1, i * b.sz + o, none⟩) :
      VR w h m (.ptr id ver i o) (.pointer (some ad))
  | clo (fn : Fn) (caps : List PV) (vs : List Value) (hl : vs.length = caps.length)
      (hvs : ∀ (j : Nat) (p : PV) (v : Value), caps[j]? = some p → vs[j]? = some v → VR w h m p v) :
      VR w h m (.clo fn caps) (.func fn #[] vs.toArray)
  | ifc1 (t : TypeId) (p : PV) (v : Value) (hv : VR w h m p v) : VR w h m (.ifc t false [p]) (.iface t v)
  | ifcA (t : TypeId) (ps : List PV) (vs : List Value) (hl : vs.length = ps.length)
      (hvs : ∀ (j : Nat) (p : PV) (v : Value), ps[j]? = some p → vs[j]? = some v → VR w h m p v) : VR w h m (.ifc t true ps) (.iface t (.agg vs.toArray))
  | ifn (t : TypeId) (v : Value) : VR w h m .ifn (.iface t v)
  | mp (es : List (Value × Value)) (g c : Nat) (ents : Array MapEntry) (hg : g < w.heap.size) (hav : ∀ id b, h.blk id = some b → (m id).1 ≠ g)
      (hh : w.heap[g]? = some (.map ents c)) (he : ents.toList.map (fun e => (e.key, e.val)) = es) : VR w h m (.mp es) (.map (some g))
theorem VR.oneCell {w : World} {h : Hp} {m : Loc} {p : PV} {v : Value} (H : VR w h m p v) : v.oneCell' = true := by
  cases H <;> first | assumption | rfl
structure Ext (w : World) (h : Hp) (m : Loc) (w' : World) (h' : Hp) (m' : Loc) : Prop where
  size : w.heap.size ≤ w'.heap.size
  lim : h.lim ≤ h'.lim
  ro : ∀ g, g < w.heap.size → (∀ id b, h.blk id = some b → (m id).1 ≠ g) → w'.heap[g]? = w.heap[g]? ∧ ∀ id b, h'.blk id = some b → (m' id).1 ≠ g
  keep : ∀ id b', id < h.lim → h'.blk id = some b' → ∃ b, h.blk id = some b ∧ b.ver ≤ b'.ver ∧ (b.ver = b'.ver → m' id = m id ∧ b'.sz = b.sz ∧ b'.es.length = b.es.length)
theorem Ext.refl (w : World) (h : Hp) (m : Loc) : Ext w h m w h m :=
  ⟨Nat.le_refl _, Nat.le_refl _, fun _ _ hg => ⟨rfl, hg⟩, fun _ b' _ hb => ⟨b', hb, Nat.le_refl _, fun _ => ⟨rfl, rfl, rfl⟩⟩⟩
theorem Ext.trans {w w1 w2 : World} {h h1 h2 : Hp} {m m1 m2 : Loc} (a : Ext w h m w1 h1 m1) (b : Ext w1 h1 m1 w2 h2 m2) : Ext w h m w2 h2 m2 := by
  refine ⟨Nat.le_trans a.size b.size, Nat.le_trans a.lim b.lim, fun g hg hav => ?_, fun id b2 hid hb2 => ?_⟩
  · obtain ⟨e1, av1⟩ := a.ro g hg hav
    obtain ⟨e2, av2⟩ := b.ro g (Nat.lt_of_lt_of_le hg a.size) av1
    exact ⟨e2.trans e1, av2⟩
  · obtain ⟨b1, hb1, hv1, hk1⟩ := b.keep id b2 (Nat.lt_of_lt_of_le hid a.lim) hb2
    obtain ⟨b0, hb0, hv0, hk0⟩ := a.keep id b1 hid hb1
    refine ⟨b0, hb0, Nat.le_trans hv0 hv1, fun e => ?_⟩
    obtain ⟨x1, x2, x3⟩ := hk0 (by omega)
    obtain ⟨y1, y2, y3⟩ := hk1 (by omega)
    exact ⟨y1.trans x1, y2.trans x2, y3.trans x3⟩
theorem VR.ext {w w' : World} {h h' : Hp} {m m' : Loc} {p : PV} {v : Value} (H : VR w h m p v) (x : Ext w h m w' h' m') : VR w' h' m' p v := by
  induction H with
  | val v h1 => exact .val v h1
  | any v h1 => exact .any v h1
  | ro0 f sz a c hc => exact .ro0 f sz a c hc
  | ro f sz xs g off c n vs hn hc hnc hg hav hlen hcell hvs ih =>
    obtain ⟨e, av⟩ := x.ro g hg hav
    exact .ro f sz xs g off c n vs hn hc hnc (Nat.lt_of_lt_of_le hg x.size) av hlen (fun i es j p h1 h2 => (World.cell?_of_block (a := ⟨g, off + i * sz + j, none⟩) e).trans (hcell i es j p h1 h2)) ih
  | rop cs g off vs hg hav hcell hvs ih =>
    obtain ⟨e, av⟩ := x.ro g hg hav
    exact .rop cs g off vs (Nat.lt_of_lt_of_le hg x.size) av (fun j p h1 => (World.cell?_of_block (a := ⟨g, off + j, none⟩) e).trans (hcell j p h1)) ih
  | own id ver off len ad c hid hv hb =>
    refine .own id ver off len ad c (Nat.lt_of_lt_of_le hid x.lim) (fun b' hb' => ?_) fun b' hb' hv' => ?_
    · obtain ⟨b, hb0, hle, _⟩ := x.keep id b' hid hb'
      exact Nat.le_trans (hv b hb0) hle
    · obtain ⟨b, hb0, hle, hk⟩ := x.keep id b' hid hb'
      have := hv b hb0
      obtain ⟨k1, k2, k3⟩ := hk (by omega)
      rw [k1, k2, k3]
      exact hb b hb0 (by omega)
  | ptr id ver i o ad hid hv hb =>
    refine .ptr id ver i o ad (Nat.lt_of_lt_of_le hid x.lim) (fun b' hb' => ?_) fun b' hb' hv' => ?_
    · obtain ⟨b, hb0, hle, _⟩ := x.keep id b' hid hb'
      exact Nat.le_trans (hv b hb0) hle
    · obtain ⟨b, hb0, hle, hk⟩ := x.keep id b' hid hb'
      have := hv b hb0
      obtain ⟨k1, k2, k3⟩ := hk (by omega)
      rw [k1, k2]
      exact hb b hb0 (by omega)
  | clo fn caps vs hl hvs ih => exact .clo fn caps vs hl ih
  | ifc1 t p v hv ih => exact .ifc1 t p v ih
  | ifcA t ps vs hl hvs ih => exact .ifcA t ps vs hl ih
  | ifn t v => exact .ifn t v
  | mp es g c ents hg hav hh he =>
    obtain ⟨e, av⟩ := x.ro g hg hav
    exact .mp es g c ents (Nat.lt_of_lt_of_le hg x.size) av (e.trans hh) he
end Go.Pw
namespace Go.Pw
open Go Go.RowKit
def Hp.set (h : Hp) (id : Nat) (b : Blk) : Hp := ⟨fun j => if j = id then some b else h.blk j, h.lim⟩
def Hp.new (h : Hp) (id : Nat) (b : Blk) : Hp := ⟨fun j => if j = id then some b else h.blk j, id + 1⟩
def Loc.set (m : Loc) (id : Nat) (x : Nat × Nat) : Loc := fun j => if j = id then x else m j
def BR (w : World) (h : Hp) (m : Loc) (g cap : Nat) (b : Blk) : Prop :=
  0 < b.sz ∧ ∃ cur fr, w.heap[g]? = some (.cells cur b.ty fr) ∧ cur.size = cap * b.sz ∧ b.es.length ≤ cap ∧ cap ≤ maxLen ∧ (b.plain = true → fr = (0, 0)) ∧ (fr.2 ≤ fr.1 ∨ cur.size ≤ fr.1) ∧
    ∀ (i : Nat) (es : List PV), b.es[i]? = some es → es.length = b.sz ∧ ∀ (j : Nat) (p : PV), es[j]? = some p → ∃ v, cur[i * b.sz + j]? = some v ∧ VR w h m p v
structure HR (W0 w : World) (h : Hp) (m : Loc) : Prop where
  below : Below W0.heap.size W0 w
  bound : ∀ id b, h.blk id = some b → id < h.lim
  far : ∀ id b, h.blk id = some b → W0.heap.size ≤ (m id).1
  live : ∀ id b, h.blk id = some b → BR w h m (m id).1 (m id).2 b
  inj : ∀ i j b c, h.blk i = some b → h.blk j = some c → (m i).1 = (m j).1 → i = j
theorem BR.ext {w w' : World} {h h' : Hp} {m m' : Loc} {g cap : Nat} {b : Blk} (H : BR w h m g cap b) (x : Ext w h m w' h' m') (hg : w'.heap[g]? = w.heap[g]?) : BR w' h' m' g cap b := by
  obtain ⟨h0, cur, fr, h1, h2, h3, h4, h5, h6, h7⟩ := H
  refine ⟨h0, cur, fr, hg.trans h1, h2, h3, h4, h5, h6, fun i es hi => ⟨(h7 i es hi).1, fun j p hj => ?_⟩⟩
  obtain ⟨v, hv, hr⟩ := (h7 i es hi).2 j p hj
  exact ⟨v, hv, hr.ext x⟩
theorem BR.lt {w : World} {h : Hp} {m : Loc} {g cap : Nat} {b : Blk} (H : BR w h m g cap b) : g < w.heap.size := by
  obtain ⟨_, cur, fr, h1, _⟩ := H
  exact (Array.getElem?_eq_some_iff.1 h1).1
theorem Ext.grow {w w' : World} {h : Hp} {m : Loc} (b : Below w.heap.size w w') : Ext w h m w' h m :=
  ⟨b.size, Nat.le_refl _, fun g hg hav => ⟨b.block g hg, hav⟩, fun _ b' _ hb => ⟨b', hb, Nat.le_refl _, fun _ => ⟨rfl, rfl, rfl⟩⟩⟩
theorem HR.grow {W0 w w' : World} {h : Hp} {m : Loc} (H : HR W0 w h m) (b : Below w.heap.size w w') : HR W0 w' h m :=
  ⟨H.below.trans (b.mono H.below.size), H.bound, H.far, fun id bl hb => (H.live id bl hb).ext (Ext.grow b) (b.block _ (H.live id bl hb).lt), H.inj⟩
theorem HR.upd {W0 w w' : World} {h : Hp} {m : Loc} (H : HR W0 w h m) {id : Nat} {b : Blk} (hb : h.blk id = some b) (b' : Blk) (g' cap' : Nat)
    (ho : w'.os = w.os) (ht : w'.tape = w.tape) (hu : w'.output = w.output) (hs : w.heap.size ≤ w'.heap.size)
    (hoth : ∀ k, k < w.heap.size → k ≠ (m id).1 → w'.heap[k]? = w.heap[k]?)
    (hg' : g' = (m id).1 ∨ w.heap.size ≤ g')
    (hver : b.ver ≤ b'.ver) (hsame : b.ver = b'.ver → g' = (m id).1 ∧ cap' = (m id).2 ∧ b'.sz = b.sz ∧ b'.es.length = b.es.length)
    (hBR : ∃ cur fr, 0 < b'.sz ∧ w'.heap[g']? = some (.cells cur b'.ty fr) ∧ cur.size = cap' * b'.sz ∧ b'.es.length ≤ cap' ∧ cap' ≤ maxLen ∧ (b'.plain = true → fr = (0, 0)) ∧ (fr.2 ≤ fr.1 ∨ cur.size ≤ fr.1) ∧
      ∀ (i : Nat) (es : List PV), b'.es[i]? = some es → es.length = b'.sz ∧ ∀ (j : Nat) (p : PV), es[j]? = some p → ∃ v, cur[i * b'.sz + j]? = some v ∧ VR w h m p v)
    (hd : Drawn → w.drawn ≤ w'.drawn := by first | exact fun _ => Nat.le_refl _ | exact fun _ => Nat.le_succ _ | assumption) :
    HR W0 w' (h.set id b') (m.set id (g', cap')) ∧ Ext w h m w' (h.set id b') (m.set id (g', cap')) := by
  have hfar := H.far id b hb
  have hlt := (H.live id b hb).lt
  have x : Ext w h m w' (h.set id b') (m.set id (g', cap')) := by
    refine ⟨hs, Nat.le_refl _, fun g hg hav => ⟨hoth g hg (fun e => hav id b hb e.symm), fun j c hj => ?_⟩, fun j c hj hc => ?_⟩
    · by_cases e : j = id
      · subst e
        simp only [Loc.set, if_true]
        rcases hg' with e | e
        · rw [e]; exact hav j b hb
        · omega
      · simp only [Hp.set, if_neg e] at hj
        simp only [Loc.set, if_neg e]
        exact hav j c hj
    · by_cases e : j = id
      · subst e
        simp only [Hp.set, if_true] at hc
        obtain rfl := Option.some.inj hc
        refine ⟨b, hb, hver, fun hv => ?_⟩
        obtain ⟨e1, e2, e3, e4⟩ := hsame hv
        refine ⟨?_, e3, e4⟩
        simp only [Loc.set, if_true]
        rw [e1, e2]
      · simp only [Hp.set, if_neg e] at hc
        exact ⟨c, hc, Nat.le_refl _, fun _ => ⟨by simp only [Loc.set, if_neg e], rfl, rfl⟩⟩
  refine ⟨⟨?_, ?_, ?_, ?_, ?_⟩, x⟩
  · have hW := H.below
    exact ⟨⟨ho.trans hW.os, ht.trans hW.tape, hu.trans hW.output, Nat.le_trans hW.size hs, fun k hk => (hoth k (Nat.lt_of_lt_of_le hk hW.size) (by omega)).trans (hW.block k hk)⟩, fun d => Nat.le_trans (hW.drawn d) (hd d)⟩
  · intro j c hj
    by_cases e : j = id
    · subst e; exact H.bound j b hb
    · simp only [Hp.set, if_neg e] at hj; exact H.bound j c hj
  · intro j c hj
    by_cases e : j = id
    · subst e
      simp only [Loc.set, if_true]
      rcases hg' with e | e
      · rw [e]; exact hfar
      · exact Nat.le_trans H.below.size e
    · simp only [Hp.set, if_neg e] at hj
      simp only [Loc.set, if_neg e]
      exact H.far j c hj
  · intro j c hj
    by_cases e : j = id
    · subst e
      simp only [Hp.set, if_true] at hj
      obtain rfl := Option.some.inj hj
      simp only [Loc.set, if_true]
      obtain ⟨cur, fr, h0, h1, h2, h3, h4, h5, h6, h7⟩ := hBR
      refine ⟨h0, cur, fr, h1, h2, h3, h4, h5, h6, fun i es hi => ⟨(h7 i es hi).1, fun k p hk => ?_⟩⟩
      obtain ⟨v, hv, hr⟩ := (h7 i es hi).2 k p hk
      exact ⟨v, hv, hr.ext x⟩
    · simp only [Hp.set, if_neg e] at hj
      simp only [Loc.set, if_neg e]
      have hl := H.live j c hj
      exact hl.ext x (hoth _ hl.lt (fun e' => e (H.inj j id c b hj hb e')))
  · intro i j bi bj hi hj hij
    by_cases ei : i = id <;> by_cases ej : j = id
    · rw [ei, ej]
    · subst ei
      simp only [Hp.set, if_neg ej] at hj
      simp only [Loc.set, if_true, if_neg ej] at hij
      rcases hg' with e | e
      · exact H.inj i j b bj hb hj (by rw [← e, hij])
      · have := (H.live j bj hj).lt; omega
    · subst ej
      simp only [Hp.set, if_neg ei] at hi
      simp only [Loc.set, if_true, if_neg ei] at hij
      rcases hg' with e | e
      · exact H.inj i j bi b hi hb (by rw [← e, hij])
      · have := (H.live i bi hi).lt; omega
    · simp only [Hp.set, if_neg ei] at hi
      simp only [Hp.set, if_neg ej] at hj
      simp only [Loc.set, if_neg ei, if_neg ej] at hij
      exact H.inj i j bi bj hi hj hij
theorem HR.born {W0 w w' : World} {h : Hp} {m : Loc} (H : HR W0 w h m) {id : Nat} (hid : h.lim ≤ id) (b' : Blk) (g' cap' : Nat)
    (hB : Below w.heap.size w w') (hg' : w.heap.size ≤ g')
    (hBR : ∃ cur fr, 0 < b'.sz ∧ w'.heap[g']? = some (.cells cur b'.ty fr) ∧ cur.size = cap' * b'.sz ∧ b'.es.length ≤ cap' ∧ cap' ≤ maxLen ∧ (b'.plain = true → fr = (0, 0)) ∧ (fr.2 ≤ fr.1 ∨ cur.size ≤ fr.1) ∧
      ∀ (i : Nat) (es : List PV), b'.es[i]? = some es → es.length = b'.sz ∧ ∀ (j : Nat) (p : PV), es[j]? = some p → ∃ v, cur[i * b'.sz + j]? = some v ∧ VR w h m p v) :
    HR W0 w' (h.new id b') (m.set id (g', cap')) ∧ Ext w h m w' (h.new id b') (m.set id (g', cap')) := by
  have hfresh : ∀ b, h.blk id = some b → False := fun b hb => by have := H.bound id b hb; omega
  have x : Ext w h m w' (h.new id b') (m.set id (g', cap')) := by
    refine ⟨hB.size, by simp only [Hp.new]; omega, fun g hg hav => ⟨hB.block g hg, fun j c hj => ?_⟩, fun j c hj hc => ?_⟩
    · by_cases e : j = id
      · subst e
        simp only [Loc.set, if_true]
        omega
      · simp only [Hp.new, if_neg e] at hj
        simp only [Loc.set, if_neg e]
        exact hav j c hj
    · have e : j ≠ id := by omega
      simp only [Hp.new, if_neg e] at hc
      exact ⟨c, hc, Nat.le_refl _, fun _ => ⟨by simp only [Loc.set, if_neg e], rfl, rfl⟩⟩
  refine ⟨⟨H.below.trans (hB.mono H.below.size), ?_, ?_, ?_, ?_⟩, x⟩
  · intro j c hj
    by_cases e : j = id
    · subst e; simp only [Hp.new]; omega
    · simp only [Hp.new, if_neg e] at hj ⊢; have := H.bound j c hj; omega
  · intro j c hj
    by_cases e : j = id
    · subst e
      simp only [Loc.set, if_true]
      exact Nat.le_trans H.below.size hg'
    · simp only [Hp.new, if_neg e] at hj
      simp only [Loc.set, if_neg e]
      exact H.far j c hj
  · intro j c hj
    by_cases e : j = id
    · subst e
      simp only [Hp.new, if_true] at hj
      obtain rfl := Option.some.inj hj
      simp only [Loc.set, if_true]
      obtain ⟨cur, fr, h0, h1, h2, h3, h4, h5, h6, h7⟩ := hBR
      refine ⟨h0, cur, fr, h1, h2, h3, h4, h5, h6, fun i es hi => ⟨(h7 i es hi).1, fun k p hk => ?_⟩⟩
      obtain ⟨v, hv, hr⟩ := (h7 i es hi).2 k p hk
      exact ⟨v, hv, hr.ext x⟩
    · simp only [Hp.new, if_neg e] at hj
      simp only [Loc.set, if_neg e]
      have hl := H.live j c hj
      exact hl.ext x (hB.block _ hl.lt)
  · intro i j bi bj hi hj hij
    by_cases ei : i = id <;> by_cases ej : j = id
    · rw [ei, ej]
    · subst ei
      simp only [Hp.new, if_neg ej] at hj
      simp only [Loc.set, if_true, if_neg ej] at hij
      have := (H.live j bj hj).lt; omega
    · subst ej
      simp only [Hp.new, if_neg ei] at hi
      simp only [Loc.set, if_true, if_neg ei] at hij
      have := (H.live i bi hi).lt; omega
    · simp only [Hp.new, if_neg ei] at hi
      simp only [Hp.new, if_neg ej] at hj
      simp only [Loc.set, if_neg ei, if_neg ej] at hij
      exact H.inj i j bi bj hi hj hij
structure Less (h h' : Hp) : Prop where
  blk : ∀ id b, h'.blk id = some b → h.blk id = some b
  lim : h.lim ≤ h'.lim
theorem Less.refl (h : Hp) : Less h h := ⟨fun _ _ h => h, Nat.le_refl _⟩
theorem Less.trans {a b c : Hp} (x : Less a b) (y : Less b c) : Less a c := ⟨fun id bl h => x.blk id bl (y.blk id bl h), Nat.le_trans x.lim y.lim⟩
theorem Less.ext {w : World} {h h' : Hp} {m : Loc} (l : Less h h') : Ext w h m w h' m :=
  ⟨Nat.le_refl _, l.lim, fun _ _ hav => ⟨rfl, fun id b hb => hav id b (l.blk id b hb)⟩, fun id b' _ hb => ⟨b', l.blk id b' hb, Nat.le_refl _, fun _ => ⟨rfl, rfl, rfl⟩⟩⟩
theorem HR.less {W0 w : World} {h h' : Hp} {m : Loc} (H : HR W0 w h m) (l : Less h h') : HR W0 w h' m :=
  ⟨H.below, fun id b hb => Nat.lt_of_lt_of_le (H.bound id b (l.blk id b hb)) l.lim, fun id b hb => H.far id b (l.blk id b hb), fun id b hb => (H.live id b (l.blk id b hb)).ext l.ext rfl,
   fun i j b c hb hc => H.inj i j b c (l.blk i b hb) (l.blk j c hc)⟩
end Go.Pw
namespace Go.Pw
open Go Go.RowKit
inductive SV where
  | one (p : PV)
  | agg (ps : List PV)
inductive Slot where
  | sv (s : SV)
  | tup (vs : List SV)
  | any
def SVR (w : World) (h : Hp) (m : Loc) : SV → Value → Prop
  | .one p, v => VR w h m p v
  | .agg ps, v => ∃ vs : List Value, v = .agg vs.toArray ∧ vs.length = ps.length ∧ ∀ (j : Nat) (p : PV) (u : Value), ps[j]? = some p → vs[j]? = some u → VR w h m p u
def LR (w : World) (h : Hp) (m : Loc) : Slot → Value → Prop
  | .sv s, v => SVR w h m s v
  | .tup ss, v => ∃ vs : List Value, v = .tuple vs.toArray ∧ vs.length = ss.length ∧ ∀ (j : Nat) (s : SV) (u : Value), ss[j]? = some s → vs[j]? = some u → SVR w h m s u
  | .any, _ => True
theorem SVR.ext {w w' : World} {h h' : Hp} {m m' : Loc} {s : SV} {v : Value} (H : SVR w h m s v) (x : Ext w h m w' h' m') : SVR w' h' m' s v := by
  cases s with
  | one p => exact VR.ext H x
  | agg ps =>
    obtain ⟨vs, e, hl, hv⟩ := H
    exact ⟨vs, e, hl, fun j p u h1 h2 => (hv j p u h1 h2).ext x⟩
theorem LR.ext {w w' : World} {h h' : Hp} {m m' : Loc} {s : Slot} {v : Value} (H : LR w h m s v) (x : Ext w h m w' h' m') : LR w' h' m' s v := by
  cases s with
  | sv s => exact SVR.ext H x
  | tup ss =>
    obtain ⟨vs, e, hl, hv⟩ := H
    exact ⟨vs, e, hl, fun j s u h1 h2 => (hv j s u h1 h2).ext x⟩
  | any => trivial
theorem LR.undef (w : World) (h : Hp) (m : Loc) : LR w h m (.tup []) Go.undef := ⟨[], rfl, rfl, fun j s u h1 => by simp at h1⟩
structure St where
  env : Nat → Slot
  hp : Hp
def St.put (σ : St) (d : Option Tmp) (r : Slot) : St :=
  match d with
  | some d => ⟨fun i => if i = d then r else σ.env i, σ.hp⟩
  | none => σ
structure Rel (W0 we : World) (he : Hp) (me : Loc) (n : Nat) (σ : St) (a : Act) (w : World) (m : Loc) : Prop where
  hr : HR W0 w σ.hp m
  ext : Ext we he me w σ.hp m
  size : a.tmps.size = n
  defers : a.defers = []
  env : ∀ i, LR w σ.hp m (σ.env i) (a.tmps.getD i undef)
def dstOk (n : Nat) : Option Tmp → Bool
  | some d => decide (d < n)
  | none => true
theorem Rel.step {W0 we w w' : World} {he : Hp} {me m m' : Loc} {n : Nat} {σ : St} {a : Act} {h' : Hp} {r : Slot} {v : Value} {d : Option Tmp} (R : Rel W0 we he me n σ a w m)
    (H : HR W0 w' h' m') (x : Ext w σ.hp m w' h' m') (hr : LR w' h' m' r v) (hd : dstOk n d = true) : Rel W0 we he me n (St.put ⟨σ.env, h'⟩ d r) (a.put d v) w' m' := by
  cases d with
  | none => exact ⟨H, R.ext.trans x, R.size, R.defers, fun i => (R.env i).ext x⟩
  | some d =>
    have hd' : d < n := by simpa [dstOk] using hd
    refine ⟨H, R.ext.trans x, by simp [Act.put, R.size], R.defers, fun i => ?_⟩
    simp only [St.put, Act.put]
    by_cases e : i = d
    · subst e
      rw [if_pos rfl]
      have : (a.tmps.setIfInBounds i v).getD i undef = v := by
        simp [Array.getD, R.size, hd']
      rw [this]
      exact hr
    · rw [if_neg e]
      have : (a.tmps.setIfInBounds d v).getD i undef = a.tmps.getD i undef := by
        simp only [Array.getD_eq_getD_getElem?, Array.getElem?_setIfInBounds]
        rw [if_neg (fun h => e h.symm)]
      rw [this]
      exact (R.env i).ext x
structure Wk (W0 : World) (σ σ' : St) : Prop where
  less : Less σ.hp σ'.hp
  env : ∀ w m, HR W0 w σ.hp m → ∀ i v, LR w σ.hp m (σ.env i) v → LR w σ'.hp m (σ'.env i) v
theorem Wk.refl (W0 : World) (σ : St) : Wk W0 σ σ := ⟨Less.refl _, fun _ _ _ _ _ h => h⟩
theorem Rel.wk {W0 we w : World} {he : Hp} {me m : Loc} {n : Nat} {σ σ' : St} {a : Act} (R : Rel W0 we he me n σ a w m) (k : Wk W0 σ σ') : Rel W0 we he me n σ' a w m :=
  ⟨R.hr.less k.less, R.ext.trans k.less.ext, R.size, R.defers, fun i => k.env w m R.hr i _ (R.env i)⟩
def PWP (P : Program) (W0 : World) (n : Nat) (c : Code) (K : Exit → St → Prop) (σ : St) : Prop :=
  ∀ we he me a w m, Rel W0 we he me n σ a w m → c.wp P (fun e a' w' => ∃ σ' m', K e σ' ∧ Rel W0 we he me n σ' a' w' m') a w
section
variable {P : Program} {W0 : World} {n : Nat} {K K' : Exit → St → Prop} {σ σ' : St} {c x y : Code}
theorem PWP.mono (H : PWP P W0 n c K σ) (hk : ∀ e σ, K e σ → K' e σ) : PWP P W0 n c K' σ :=
  fun we he me a w m R => wp_mono (H we he me a w m R) fun _ _ _ ⟨σ', m', h, r⟩ => ⟨σ', m', hk _ _ h, r⟩
theorem PWP.wk (H : PWP P W0 n c K σ') (k : Wk W0 σ σ') : PWP P W0 n c K σ := fun we he me a w m R => H we he me a w m (R.wk k)
def thenK (N : St → Prop) (K : Exit → St → Prop) : Exit → St → Prop
  | .normal, σ => N σ
  | e, σ => K e σ
theorem pwp_seq (H : PWP P W0 n x (thenK (PWP P W0 n y K) K) σ) : PWP P W0 n (.seq x y) K σ := by
  intro we he me a w m R
  refine wp_seq (wp_mono (H we he me a w m R) ?_)
  rintro e a' w' ⟨σ', m', hk, r⟩
  cases e with
  | normal => exact hk we he me a' w' m' r
  | _ => exact ⟨σ', m', hk, r⟩
theorem pwp_skip (H : K .normal σ) : PWP P W0 n .skip K σ := fun _ _ _ _ _ m R => wp_skip ⟨σ, m, H, R⟩
theorem pwp_ret (H : K .ret σ) : PWP P W0 n .ret K σ := fun _ _ _ _ _ m R => wp_ret ⟨σ, m, H, R⟩
theorem pwp_exit {id : Nat} (H : K (.exit id) σ) : PWP P W0 n (.exit id) K σ := fun _ _ _ _ _ m R => wp_exit ⟨σ, m, H, R⟩
def blockK (id : Nat) (K : Exit → St → Prop) : Exit → St → Prop
  | .exit j, σ => if j = id then K .normal σ else K (.exit j) σ
  | e, σ => K e σ
theorem pwp_block {id : Nat} (H : PWP P W0 n c (blockK id K) σ) : PWP P W0 n (.block id c) K σ := by
  intro we he me a w m R
  refine wp_block (wp_mono (H we he me a w m R) ?_)
  rintro e a' w' ⟨σ', m', hk, r⟩
  cases e with
  | exit j =>
    simp only [blockK] at hk
    simp only [Exit.inBlock]
    split
    · rename_i e; rw [if_pos e] at hk; exact ⟨σ', m', hk, r⟩
    · rename_i e; rw [if_neg e] at hk; exact ⟨σ', m', hk, r⟩
  | _ => exact ⟨σ', m', hk, r⟩
def constSlot : Value → Slot
  | .agg cs => if cs.all (·.oneCell') then .sv (.agg (cs.toList.map .val)) else .any
  | .tuple vs => if vs.size = 0 then .tup [] else .any
  | v => .sv (.one (.val v))
def St.eval (σ : St) : Operand → Slot
  | .tmp t => σ.env t
  | .const v => constSlot v
  | .global g => .sv (.one (.val (.pointer (some ⟨g, 0, none⟩))))
  | .func f => .sv (.one (.clo (.func f) []))
theorem constSlot_ok (w : World) (h : Hp) (m : Loc) (v : Value) : LR w h m (constSlot v) v := by
  cases v with
  | agg cs =>
    simp only [constSlot]
    split
    · rename_i hall
      refine ⟨cs.toList, by simp, by simp, fun j p u h1 h2 => ?_⟩
      simp only [List.getElem?_map, h2, Option.map_some, Option.some.injEq] at h1
      subst h1
      exact .val u (by
        have := Array.all_eq_true_iff_forall_mem.1 hall u (by
          have := List.mem_of_getElem? h2
          simpa using this)
        simpa using this)
    · trivial
  | tuple vs =>
    simp only [constSlot]
    split
    · rename_i hs
      obtain rfl : vs = #[] := Array.eq_empty_of_size_eq_zero hs
      exact LR.undef w h m
    · trivial
  | _ => exact .val _ rfl
theorem Rel.eval {we w : World} {he : Hp} {me m : Loc} {a : Act} (R : Rel W0 we he me n σ a w m) (x : Operand) : LR w σ.hp m (σ.eval x) (a.eval x) := by
  cases x with
  | tmp t => exact R.env t
  | const v => exact constSlot_ok w σ.hp m v
  | global g => exact .val _ rfl
  | func f => exact .clo (.func f) [] [] rfl (fun j p v h1 => by simp at h1)
theorem pwp_cond {c : Operand} {t : Bool} (hc : σ.eval c = .sv (.one (.val (.bool t)))) (H1 : t = true → PWP P W0 n x K σ) (H2 : t = false → PWP P W0 n y K σ) : PWP P W0 n (.cond c x y) K σ := by
  intro we he me a w m R
  have h := R.eval c
  rw [hc] at h
  have hv : a.eval c = .bool t := by
    generalize a.eval c = v at h
    cases h
    rfl
  refine wp_cond_split hv (fun ht => H1 ht we he me a w m R) (fun ht => H2 ht we he me a w m R)
theorem pwp_cond_true {c : Operand} (hc : σ.eval c = .sv (.one (.val (.bool true)))) (H : PWP P W0 n x K σ) : PWP P W0 n (.cond c x y) K σ := pwp_cond hc (fun _ => H) (fun h => by cases h)
theorem pwp_cond_false {c : Operand} (hc : σ.eval c = .sv (.one (.val (.bool false)))) (H : PWP P W0 n y K σ) : PWP P W0 n (.cond c x y) K σ := pwp_cond hc (fun h => by cases h) (fun _ => H)
theorem pwp_loop (I : Nat → St → Prop) (k0 : Nat) (h0 : ∃ σ', Wk W0 σ σ' ∧ I k0 σ')
    (round : ∀ k σ, I k σ → PWP P W0 n c (thenK (fun σ' => ∃ k', k' < k ∧ ∃ σ'', Wk W0 σ' σ'' ∧ I k' σ'') K) σ) : PWP P W0 n (.loop c) K σ := by
  intro we he me a w m R
  obtain ⟨σ0, k, hI⟩ := h0
  refine wp_loop_ghost (fun k a w => ∃ σ m, I k σ ∧ Rel W0 we he me n σ a w m) k0 ⟨σ0, m, hI, R.wk k⟩ ?_
  rintro k a w ⟨σ, m, hI, R⟩
  refine wp_mono (round k σ hI we he me a w m R) ?_
  rintro e a' w' ⟨σ', m', hk, r⟩
  cases e with
  | normal =>
    obtain ⟨k', hlt, σ'', hw, hI'⟩ := hk
    exact ⟨k', hlt, σ'', m', hI', r.wk hw⟩
  | _ => exact ⟨σ', m', hk, r⟩
def PCalls (P : Program) (W0 : World) (f : FuncId) (args : List SV) (h : Hp) (R : Slot → Hp → Prop) : Prop :=
  (∃ fn, P.funcs[f]? = some fn ∧ fn.body.isSome = true ∧ (fn.name == "runtime.NumGoroutine") = false) ∧
  ∀ w m (vs : List Value), HR W0 w h m → vs.length = args.length → (∀ (j : Nat) (s : SV) (v : Value), args[j]? = some s → vs[j]? = some v → SVR w h m s v) →
    Calls P f vs.toArray w fun e w' => ∃ v r h' m', e = .returned v ∧ R r h' ∧ LR w' h' m' r v ∧ HR W0 w' h' m' ∧ Ext w h m w' h' m'
theorem PCalls.mono {f : FuncId} {args : List SV} {h : Hp} {R R' : Slot → Hp → Prop} (H : PCalls P W0 f args h R) (hr : ∀ r h', R r h' → R' r h') : PCalls P W0 f args h R' :=
  ⟨H.1, fun w m vs h1 h2 h3 => (H.2 w m vs h1 h2 h3).mono fun _ _ ⟨v, r, h', m', a, b, c⟩ => ⟨v, r, h', m', a, hr _ _ b, c⟩⟩
def entryEnv (args : List SV) (i : Nat) : Slot :=
  match args[i]? with
  | some s => .sv s
  | none => .tup []
def resSlot (fn : Func) (σ : St) : Option Slot :=
  match fn.results.toList with
  | [] => some (.tup [])
  | [.tmp t] => some (σ.env t)
  | [.tmp t, .tmp u] => match σ.env t, σ.env u with | .sv a, .sv b => some (.tup [a, b]) | _, _ => none
  | [.tmp t, .tmp u, .tmp x] => match σ.env t, σ.env u, σ.env x with | .sv a, .sv b, .sv c => some (.tup [a, b, c]) | _, _, _ => none
  | _ => none
structure SlotWk (W0 : World) (h : Hp) (s : Slot) (h' : Hp) (s' : Slot) : Prop where
  less : Less h h'
  slot : ∀ w m, HR W0 w h m → ∀ v, LR w h m s v → LR w h' m s' v
theorem SlotWk.refl (W0 : World) (h : Hp) (s : Slot) : SlotWk W0 h s h s := ⟨Less.refl _, fun _ _ _ _ h => h⟩
def bodyK (W0 : World) (fn : Func) (R : Slot → Hp → Prop) : Exit → St → Prop
  | .normal, σ | .ret, σ => ∃ s, resSlot fn σ = some s ∧ ∃ r h', SlotWk W0 σ.hp s h' r ∧ R r h'
  | _, _ => False
theorem results_three {fn : Func} {t u x : Tmp} (h : fn.results = #[.tmp t, .tmp u, .tmp x]) (tmps : Array Value) (w : World) :
    (results fn tmps).run P w = .ok (.tuple #[tmps.getD t undef, tmps.getD u undef, tmps.getD x undef]) w := by
  simp [results, h]
theorem resSlot_ok {fn : Func} {we w : World} {he : Hp} {me m : Loc} {a : Act} {s : Slot} (R : Rel W0 we he me n σ a w m) (h : resSlot fn σ = some s) :
    ∃ v, (results fn a.tmps).run P w = .ok v w ∧ LR w σ.hp m s v := by
  unfold resSlot at h
  have hres : ∀ l, fn.results.toList = l → fn.results = l.toArray := fun l e => by rw [← e]
  split at h
  · rename_i e
    obtain rfl := Option.some.inj h
    exact ⟨_, results_none (hres _ e) _ _ _, LR.undef _ _ _⟩
  · rename_i t e
    obtain rfl := Option.some.inj h
    exact ⟨_, results_tmp (hres _ e) _ _ _, R.env t⟩
  · rename_i t u e
    split at h
    · rename_i x y hx hy
      obtain rfl := Option.some.inj h
      refine ⟨_, results_tmp2 (hres _ e) _ _ _, [_, _], rfl, rfl, fun j s v h1 h2 => ?_⟩
      have r1 := R.env t
      have r2 := R.env u
      rw [hx] at r1
      rw [hy] at r2
      match j, h1, h2 with
      | 0, h1, h2 => obtain rfl := Option.some.inj h1; obtain rfl := Option.some.inj h2; exact r1
      | 1, h1, h2 => obtain rfl := Option.some.inj h1; obtain rfl := Option.some.inj h2; exact r2
    · cases h
  · rename_i t u x e
    split at h
    · rename_i x1 y1 z1 hx hy hz
      obtain rfl := Option.some.inj h
      refine ⟨_, results_three (hres _ e) _ _, [_, _, _], rfl, rfl, fun j s v h1 h2 => ?_⟩
      have r1 := R.env t
      have r2 := R.env u
      have r3 := R.env x
      rw [hx] at r1
      rw [hy] at r2
      rw [hz] at r3
      match j, h1, h2 with
      | 0, h1, h2 => obtain rfl := Option.some.inj h1; obtain rfl := Option.some.inj h2; exact r1
      | 1, h1, h2 => obtain rfl := Option.some.inj h1; obtain rfl := Option.some.inj h2; exact r2
      | 2, h1, h2 => obtain rfl := Option.some.inj h1; obtain rfl := Option.some.inj h2; exact r3
    · cases h
  · cases h
theorem pcalls_body {f : FuncId} {fn : Func} {args : List SV} {h : Hp} {R : Slot → Hp → Prop} (hf : P.funcs[f]? = some fn) (hb : fn.body = some c) (hn : (fn.name == "runtime.NumGoroutine") = false)
    (hs : n = args.length + (fn.ntmps - args.length)) (H : (∀ id b, h.blk id = some b → id < h.lim) → PWP P W0 n c (bodyK W0 fn R) ⟨entryEnv args, h⟩) : PCalls P W0 f args h R := by
  refine ⟨⟨fn, hf, by rw [hb]; rfl, hn⟩, fun w m vs hr hl hvs => ?_⟩
  refine calls_of_wp hf hb ?_
  have R0 : Rel W0 w h m n ⟨entryEnv args, h⟩ { tmps := vs.toArray ++ Array.replicate (fn.ntmps - vs.toArray.size) undef, defers := [] } w m := by
    refine ⟨hr, Ext.refl _ _ _, by simp [hl, hs], rfl, fun i => ?_⟩
    have hg : (vs.toArray ++ Array.replicate (fn.ntmps - vs.toArray.size) undef).getD i undef = (vs[i]?).getD undef := by
      simp only [Array.getD_eq_getD_getElem?, Array.getElem?_append, List.size_toArray, List.getElem?_toArray]
      split
      · rfl
      · rename_i hi
        rw [List.getElem?_eq_none (by omega)]
        simp only [Array.getElem?_replicate, Option.getD_none]
        split <;> rfl
    show LR w h m (entryEnv args i) ((vs.toArray ++ Array.replicate (fn.ntmps - vs.toArray.size) undef).getD i undef)
    rw [hg]
    unfold entryEnv
    cases hi : args[i]? with
    | none =>
      rw [List.getElem?_eq_none (by have := List.getElem?_eq_none_iff.1 hi; omega)]
      exact LR.undef _ _ _
    | some s =>
      have hlt : i < vs.length := by have := (List.getElem?_eq_some_iff.1 hi).1; omega
      rw [List.getElem?_eq_getElem hlt]
      exact hvs i s _ hi (List.getElem?_eq_getElem hlt)
  refine wp_mono (H hr.bound w h m _ w m R0) ?_
  rintro e a' w' ⟨σ', m', hk, r⟩
  have fin : (∃ s, resSlot fn σ' = some s ∧ ∃ r h', SlotWk W0 σ'.hp s h' r ∧ R r h') →
      a'.defers = [] ∧ ∃ v, (results fn a'.tmps).run P w' = .ok v w' ∧ ∃ v' r h' m', Ending.returned v = .returned v' ∧ R r h' ∧ LR w' h' m' r v' ∧ HR W0 w' h' m' ∧ Ext w h m w' h' m' := by
    rintro ⟨s, hs, r', h', wk, hR⟩
    obtain ⟨v, hv, hl⟩ := resSlot_ok (P := P) r hs
    exact ⟨r.defers, v, hv, v, r', h', m', rfl, hR, wk.slot w' m' r.hr v hl, r.hr.less wk.less, r.ext.trans wk.less.ext⟩
  cases e with
  | normal => exact fin hk
  | ret => exact fin hk
  | _ => exact hk.elim
end
end Go.Pw
namespace Go.Pw
open Go Go.RowKit
def intK (op : BinOp) (k : IntKind) (x : Int) (k' : IntKind) (y : Int) (N : Value → Prop) : Prop :=
  match op with
  | .shl => 0 ≤ y ∧ N (.int k (k.wrap (x * 2 ^ (min y.toNat k.bits))))
  | .shr => 0 ≤ y ∧ N (.int k (x.fdiv (2 ^ (min y.toNat k.bits))))
  | .add => k = k' ∧ N (.int k (k.wrap (x + y)))
  | .sub => k = k' ∧ N (.int k (k.wrap (x - y)))
  | .mul => k = k' ∧ N (.int k (k.wrap (x * y)))
  | .quo => k = k' ∧ y ≠ 0 ∧ N (.int k (k.wrap (x.tdiv y)))
  | .rem => k = k' ∧ y ≠ 0 ∧ N (.int k (x.tmod y))
  | .and => k = k' ∧ N (.int k (k.wrap (BitVec.ofInt k.bits x &&& BitVec.ofInt k.bits y).toNat))
  | .or => k = k' ∧ N (.int k (k.wrap (BitVec.ofInt k.bits x ||| BitVec.ofInt k.bits y).toNat))
  | .xor => k = k' ∧ N (.int k (k.wrap (BitVec.ofInt k.bits x ^^^ BitVec.ofInt k.bits y).toNat))
  | .andNot => k = k' ∧ N (.int k (k.wrap (BitVec.ofInt k.bits x &&& ~~~ BitVec.ofInt k.bits y).toNat))
  | .eql => k = k' ∧ N (.bool (x == y))
  | .neq => k = k' ∧ N (.bool (x != y))
  | .lss => k = k' ∧ N (.bool (decide (x < y)))
  | .leq => k = k' ∧ N (.bool (decide (x ≤ y)))
  | .gtr => k = k' ∧ N (.bool (decide (x > y)))
  | .geq => k = k' ∧ N (.bool (decide (x ≥ y)))
def strK (op : BinOp) (x y : ByteArray) (N : Value → Prop) : Prop :=
  match op with
  | .add => x.size + y.size ≤ 9223372036854775807 ∧ N (.string (x ++ y))
  | .eql => N (.bool (x.toList == y.toList))
  | .neq => N (.bool !(x.toList == y.toList))
  | .lss => N (.bool (Op.bytesLess x.toList y.toList))
  | .leq => N (.bool (Op.bytesLess x.toList y.toList || x.toList == y.toList))
  | .gtr => N (.bool !(Op.bytesLess x.toList y.toList || x.toList == y.toList))
  | .geq => N (.bool !(Op.bytesLess x.toList y.toList))
  | _ => False
def eqK (op : BinOp) (b : Bool) (N : Value → Prop) : Prop :=
  match op with
  | .eql => N (.bool b)
  | .neq => N (.bool !b)
  | _ => False
def isPtr : Option TypeDesc → Prop
  | some (.pointer _) => True
  | _ => False
def isSl : Option TypeDesc → Prop
  | some (.slice _) => True
  | _ => False
def binK (d : Option TypeDesc) (op : BinOp) (a b : Value) (N : Value → Prop) : Prop :=
  match a, b with
  | .int k x, .int k' y => intK op k x k' y N
  | .string x, .string y => strK op x y N
  | .bool x, .bool y => d = some .bool ∧ eqK op (x == y) N
  | .pointer none, .pointer none => isPtr d ∧ eqK op true N
  | .slice none 0 0, .slice none 0 0 => isSl d ∧ eqK op true N
  | _, _ => False
theorem intK_ok {P : Program} {op : BinOp} {k k' : IntKind} {x y : Int} {N : Value → Prop} (H : intK op k x k' y N) (t : TypeId) :
    ∃ v, N v ∧ v.oneCell' = true ∧ ∀ w, (binOp op t (.int k x) (.int k' y)).run P w = .ok v w := by
  cases op <;> simp only [intK] at H
  case shl => exact ⟨_, H.2, rfl, fun w => by simp [binOp, Op.shift, Int.not_lt.2 H.1]⟩
  case shr => exact ⟨_, H.2, rfl, fun w => by simp [binOp, Op.shift, Int.not_lt.2 H.1]⟩
  case quo => obtain ⟨rfl, h0, H⟩ := H; exact ⟨_, H, rfl, fun w => by simp [binOp, Op.intDiv, h0]⟩
  case rem => obtain ⟨rfl, h0, H⟩ := H; exact ⟨_, H, rfl, fun w => by simp [binOp, Op.intDiv, h0]⟩
  all_goals
    obtain ⟨rfl, H⟩ := H
    exact ⟨_, H, rfl, fun w => by simp [binOp, Op.intArith, Op.intBits, Op.intCmp]⟩
theorem strK_ok {P : Program} {op : BinOp} {x y : ByteArray} {N : Value → Prop} (H : strK op x y N) (t : TypeId) :
    ∃ v, N v ∧ v.oneCell' = true ∧ ∀ w, (binOp op t (.string x) (.string y)).run P w = .ok v w := by
  cases op <;> simp only [strK] at H
  case add =>
    have h := H.1
    exact ⟨_, H.2, rfl, fun w => by
      have : ¬ ((x.size + y.size : Nat) : Int) > IntKind.i64.max := by
        have e : IntKind.i64.max = 9223372036854775807 := by decide
        rw [e]; omega
      simp only [binOp, Op.stringOp]
      rw [if_neg this]
      rfl⟩
  all_goals exact ⟨_, H, rfl, fun w => by simp [binOp, Op.stringOp]⟩
theorem equal_bool {P : Program} {t : TypeId} (hd : P.underlying t = some .bool) (x y : Bool) (w : World) : (Op.equal t (.bool x) (.bool y)).run P w = .ok (x == y) w := by
  have key : ∀ d, (Op.equalIn (d + 1) t (.bool x) (.bool y)).run P w = .ok (x == y) w := fun d => by simp only [Op.equalIn, Sem.run_bind, run_underlying hd, Result.andThen_ok]; rfl
  exact key 9999
theorem equal_ptr {P : Program} {t e : TypeId} (hd : P.underlying t = some (.pointer e)) (p : Option Addr) (w : World) : (Op.equal t (.pointer p) (.pointer none)).run P w = .ok p.isNone w := by
  have key : ∀ d, (Op.equalIn (d + 1) t (.pointer p) (.pointer none)).run P w = .ok p.isNone w := fun d => by
    cases p <;> (simp only [Op.equalIn, Sem.run_bind, run_underlying hd, Result.andThen_ok]; rfl)
  exact key 9999
theorem equal_nilsl {P : Program} {t e : TypeId} (hd : P.underlying t = some (.slice e)) (p : Option Addr) (n c : Nat) (w : World) : (Op.equal t (.slice p n c) (.slice none 0 0)).run P w = .ok p.isNone w := by
  have key : ∀ d, (Op.equalIn (d + 1) t (.slice p n c) (.slice none 0 0)).run P w = .ok p.isNone w := fun d => by
    cases p <;> (simp only [Op.equalIn, Sem.run_bind, run_underlying hd, Result.andThen_ok]; rfl)
  exact key 9999
theorem equal_nilif {P : Program} {t : TypeId} {ms : Array (String × TypeId)} (hd : P.underlying t = some (.interface ms)) (te : TypeId) (v : Value) (w : World) : (Op.equal t (.iface te v) .nilIface).run P w = .ok false w := by
  have key : ∀ d, (Op.equalIn (d + 1) t (.iface te v) .nilIface).run P w = .ok false w := fun d => by
    simp only [Op.equalIn, Sem.run_bind, run_underlying hd, Result.andThen_ok]; rfl
  exact key 9999
theorem equal_nilif0 {P : Program} {t : TypeId} {ms : Array (String × TypeId)} (hd : P.underlying t = some (.interface ms)) (w : World) : (Op.equal t .nilIface .nilIface).run P w = .ok true w := by
  have key : ∀ d, (Op.equalIn (d + 1) t .nilIface .nilIface).run P w = .ok true w := fun d => by
    simp only [Op.equalIn, Sem.run_bind, run_underlying hd, Result.andThen_ok]; rfl
  exact key 9999
theorem isSl_slice {d : Option TypeDesc} (h : isSl d) : ∃ e, d = some (.slice e) := by
  unfold isSl at h
  split at h
  · exact ⟨_, rfl⟩
  · exact h.elim
theorem slNil_ok {P : Program} {op : BinOp} {p : Option Addr} {n c : Nat} {N : Value → Prop} {t : TypeId} (hd : isSl (P.underlying t)) (H : eqK op p.isNone N) (x y : Operand) :
    ∃ v, N v ∧ v.oneCell' = true ∧ ∀ w, (do eqGuard op t x y (.slice p n c) (.slice none 0 0); binOp op t (.slice p n c) (.slice none 0 0) : Sem Value).run P w = .ok v w := by
  obtain ⟨e, hd⟩ := isSl_slice hd
  cases op <;> simp only [eqK] at H
  case eql => exact ⟨_, H, rfl, fun w => by simp only [eqGuard, binOp, Sem.run_bind, equal_nilsl hd, Result.andThen_ok]; rfl⟩
  case neq => exact ⟨_, H, rfl, fun w => by simp only [eqGuard, binOp, Sem.run_bind, equal_nilsl hd, Result.andThen_ok]; rfl⟩
theorem binK_ok {P : Program} {op : BinOp} {a b : Value} {N : Value → Prop} {t : TypeId} (H : binK (P.underlying t) op a b N) :
    ∃ v, N v ∧ v.oneCell' = true ∧ ∀ w, (binOp op t a b).run P w = .ok v w := by
  unfold binK at H
  split at H
  · exact intK_ok H t
  · exact strK_ok H t
  · obtain ⟨hd, H⟩ := H
    cases op <;> simp only [eqK] at H
    case eql => exact ⟨_, H, rfl, fun w => by simp only [binOp, Sem.run_bind, equal_bool hd, Result.andThen_ok]; rfl⟩
    case neq => exact ⟨_, H, rfl, fun w => by simp only [binOp, Sem.run_bind, equal_bool hd, Result.andThen_ok]; rfl⟩
  · obtain ⟨hd, H⟩ := H
    obtain ⟨e, hd⟩ : ∃ e, P.underlying t = some (.pointer e) := by
      unfold isPtr at hd
      split at hd
      · exact ⟨_, by assumption⟩
      · exact hd.elim
    cases op <;> simp only [eqK] at H
    case eql => exact ⟨_, H, rfl, fun w => by simp only [binOp, Sem.run_bind, equal_ptr hd, Result.andThen_ok]; rfl⟩
    case neq => exact ⟨_, H, rfl, fun w => by simp only [binOp, Sem.run_bind, equal_ptr hd, Result.andThen_ok]; rfl⟩
  · obtain ⟨hd, H⟩ := H
    obtain ⟨e, hd⟩ := isSl_slice hd
    cases op <;> simp only [eqK] at H
    case eql => exact ⟨_, H, rfl, fun w => by simp only [binOp, Sem.run_bind, equal_nilsl hd, Result.andThen_ok]; rfl⟩
    case neq => exact ⟨_, H, rfl, fun w => by simp only [binOp, Sem.run_bind, equal_nilsl hd, Result.andThen_ok]; rfl⟩
  · exact H.elim
theorem eqGuard_ok {P : Program} {op : BinOp} {a b : Value} {N : Value → Prop} {t : TypeId} (H : binK (P.underlying t) op a b N) (x y : Operand) (w : World) :
    (eqGuard op t x y a b).run P w = .ok () w := by
  unfold binK at H
  split at H <;> first
    | exact H.elim
    | (unfold eqGuard; cases op <;> simp)
theorem ptrNil_ok {P : Program} {op : BinOp} {ad : Addr} {N : Value → Prop} {t : TypeId} (hd : isPtr (P.underlying t)) (H : eqK op false N) (x y : Operand) :
    ∃ v, N v ∧ v.oneCell' = true ∧ ∀ w, (do eqGuard op t x y (.pointer (some ad)) (.pointer none); binOp op t (.pointer (some ad)) (.pointer none) : Sem Value).run P w = .ok v w := by
  obtain ⟨e, hd⟩ : ∃ e, P.underlying t = some (.pointer e) := by
    unfold isPtr at hd
    split at hd
    · exact ⟨_, by assumption⟩
    · exact hd.elim
  cases op <;> simp only [eqK] at H
  case eql => exact ⟨_, H, rfl, fun w => by simp only [eqGuard, binOp, Sem.run_bind, equal_ptr hd, Result.andThen_ok]; rfl⟩
  case neq => exact ⟨_, H, rfl, fun w => by simp only [eqGuard, binOp, Sem.run_bind, equal_ptr hd, Result.andThen_ok]; rfl⟩
def unK (op : UnOp) (a : Value) (N : Value → Prop) : Prop :=
  match op, a with
  | .neg, .int k x => N (.int k (k.wrap (0 - x)))
  | .xor, .int k x => N (.int k (k.wrap (BitVec.ofInt k.bits (if k.signed then -1 else k.max) ^^^ BitVec.ofInt k.bits x).toNat))
  | .not, .bool b => N (.bool !b)
  | _, _ => False
theorem unK_ok {P : Program} {op : UnOp} {a : Value} {N : Value → Prop} (H : unK op a N) : ∃ v, N v ∧ v.oneCell' = true ∧ ∀ w, (Op.unary op a).run P w = .ok v w := by
  unfold unK at H
  split at H
  · exact ⟨_, H, rfl, fun w => by simp [Op.unary, Op.intArith]⟩
  · exact ⟨_, H, rfl, fun w => by simp [Op.unary, Op.intBits]⟩
  · exact ⟨_, H, rfl, fun w => by simp [Op.unary]⟩
  · exact H.elim
end Go.Pw
namespace Go.Pw
open Go Go.RowKit
def szOf (P : Program) (t : TypeId) : Option Nat := (P.info? t).map (·.size)
def zeroOf (P : Program) (t : TypeId) : Option Value := (P.info? t).bind (·.zero)
def bytesOf' (P : Program) (t : TypeId) : Option Nat := (P.info? t).map (·.bytes)
def isAggD : TypeDesc → Bool
  | .struct _ | .array _ _ => true
  | _ => false
theorem run_sizeOf' {P : Program} {t : TypeId} {n : Nat} (h : szOf P t = some n) (w : World) : (sizeOf t).run P w = .ok n w := by
  obtain ⟨i, hi, rfl⟩ := Option.map_eq_some_iff.1 h
  simp [sizeOf, typeInfo, hi]
theorem run_isAgg' {P : Program} {t : TypeId} {d : TypeDesc} (h : P.underlying t = some d) (w : World) : (isAgg t).run P w = .ok (isAggD d) w := by
  simp only [isAgg, Sem.run_bind, run_underlying h, Result.andThen_ok]
  cases d <;> rfl
theorem run_zeroValue {P : Program} {t : TypeId} {v : Value} (h : zeroOf P t = some v) (w : World) : (zeroValue t).run P w = .ok v w := by
  unfold zeroOf at h
  obtain ⟨i, hi, hz⟩ := Option.bind_eq_some_iff.1 h
  simp [zeroValue, typeInfo, hi, hz]
theorem addr_add (g o n : Nat) : (⟨g, o, none⟩ : Addr).add n = ⟨g, o + n, none⟩ := by unfold Addr.add; split <;> simp_all
def OpOut (W0 w : World) (h : Hp) (m : Loc) (N : Slot → Hp → Prop) (v : Value) (w' : World) : Prop :=
  ∃ r h' m', N r h' ∧ LR w' h' m' r v ∧ HR W0 w' h' m' ∧ Ext w h m w' h' m'
section
variable {P : Program} {W0 w : World} {h : Hp} {m : Loc} {N : Slot → Hp → Prop}
theorem OpOut.same (H : HR W0 w h m) {r : Slot} {v : Value} (hn : N r h) (hr : LR w h m r v) : OpOut W0 w h m N v w := ⟨r, h, m, hn, hr, H, Ext.refl _ _ _⟩
def CellsAt (w : World) (h : Hp) (m : Loc) (g off : Nat) (ps : List PV) : Prop :=
  ∀ (j : Nat) (p : PV), ps[j]? = some p → ∃ u, w.cell? ⟨g, off + j, none⟩ = some u ∧ VR w h m p u
theorem CellsAt.list {g off : Nat} {ps : List PV} (H : CellsAt w h m g off ps) :
    ∃ cs : List Value, cs.length = ps.length ∧ (∀ (j : Nat) (u : Value), cs[j]? = some u → w.cell? ⟨g, off + j, none⟩ = some u) ∧ ∀ (j : Nat) (p : PV) (u : Value), ps[j]? = some p → cs[j]? = some u → VR w h m p u := by
  induction ps generalizing off with
  | nil => exact ⟨[], rfl, fun j u hj => by simp at hj, fun j p u hj => by simp at hj⟩
  | cons p ps ih =>
    obtain ⟨u, hu, hr⟩ := H 0 p rfl
    obtain ⟨cs, hl, hc, hv⟩ := ih (off := off + 1) (fun j q hj => by have := H (j + 1) q (by simpa using hj); rwa [show off + (j + 1) = off + 1 + j by omega] at this)
    refine ⟨u :: cs, by simp [hl], fun j x hj => ?_, fun j q x hj hx => ?_⟩
    · cases j with
      | zero => simp at hj; subst hj; simpa using hu
      | succ j => rw [show off + (j + 1) = off + 1 + j by omega]; exact hc j x (by simpa using hj)
    · cases j with
      | zero => simp at hj hx; subst hj; subst hx; exact hr
      | succ j => exact hv j q x (by simpa using hj) (by simpa using hx)
theorem CellsAt.drop {g off : Nat} {ps : List PV} (H : CellsAt w h m g off ps) (o : Nat) : CellsAt w h m g (off + o) (ps.drop o) := fun j p hj => by
  have := H (o + j) p (by simpa [List.getElem?_drop] using hj)
  rwa [← Nat.add_assoc] at this
theorem CellsAt.take {g off : Nat} {ps : List PV} (H : CellsAt w h m g off ps) (k : Nat) : CellsAt w h m g off (ps.take k) := fun j p hj => by
  refine H j p ?_
  rw [List.getElem?_take] at hj
  split at hj
  · exact hj
  · cases hj
def loadK (P : Program) (t : TypeId) (ps : List PV) (N : Slot → Prop) : Prop :=
  match P.underlying t with
  | some d =>
    if isAggD d then (match szOf P t with | some sz => sz ≤ ps.length ∧ N (.sv (.agg (ps.take sz))) | none => False)
    else (match ps with | p :: _ => N (.sv (.one p)) | [] => False)
  | none => False
theorem loadK_ok {t : TypeId} {ps : List PV} {N : Slot → Prop} {g off : Nat} (H : loadK P t ps N) (C : CellsAt w h m g off ps) :
    ∃ v r, (loadVar t ⟨g, off, none⟩).run P w = .ok v w ∧ N r ∧ LR w h m r v := by
  unfold loadK at H
  split at H
  · rename_i d hd
    split at H
    · rename_i ha
      split at H
      · rename_i sz hs
        obtain ⟨hle, hN⟩ := H
        obtain ⟨cs, hl, hc, hv⟩ := (C.take sz).list
        have hlen : cs.length = sz := by rw [hl, List.length_take]; omega
        have hrun := run_loadCells_list (P := P) w ⟨g, off, none⟩ cs (fun j u hj => by rw [addr_add]; exact hc j u hj)
        refine ⟨.agg cs.toArray, _, ?_, hN, cs, rfl, hl, hv⟩
        rw [hlen] at hrun
        simp only [loadVar, Sem.run_bind, run_isAgg' hd, Result.andThen_ok, ha, if_true, run_sizeOf' hs, hrun, Sem.run_pure]
      · exact H.elim
    · rename_i ha
      split at H
      · rename_i p rest
        obtain ⟨u, hu, hr⟩ := C 0 p rfl
        refine ⟨u, _, ?_, H, hr⟩
        simp only [Nat.add_zero] at hu
        have ha' : isAggD d = false := by simpa using ha
        simp only [loadVar, Sem.run_bind, run_isAgg' hd, Result.andThen_ok, ha', run_load, hu, Bool.false_eq_true, if_false]
      · exact H.elim
  · exact H.elim
def popLoad (P : Program) (W0 : World) (t : TypeId) (x : Slot) (h : Hp) (N : Slot → Hp → Prop) : Prop :=
  match x with
  | .sv (.one (.rop cs)) => loadK P t cs (fun s => N s h)
  | .sv (.one (.ptr id ver i o)) =>
    match h.blk id with
    | some b => b.ver = ver ∧ (match b.es[i]? with | some es => loadK P t (es.drop o) (fun s => N s h) | none => False)
    | none => False
  | .sv (.one (.val (.pointer (some a)))) =>
    a.spot = none ∧ ∃ cs : List Value, (∀ (j : Nat) (u : Value), cs[j]? = some u → W0.cell? ⟨a.block, a.off + j, none⟩ = some u ∧ u.oneCell' = true) ∧ loadK P t (cs.map .val) (fun s => N s h)
  | _ => False
theorem HR.cellsAt (H : HR W0 w h m) {id : Nat} {b : Blk} (hb : h.blk id = some b) {i : Nat} {es : List PV} (he : b.es[i]? = some es) : CellsAt w h m (m id).1 (i * b.sz) es := by
  obtain ⟨_, cur, fr, hg, hsz, _, _, _, _, hc⟩ := H.live id b hb
  intro j p hj
  obtain ⟨v, hv, hr⟩ := (hc i es he).2 j p hj
  exact ⟨v, by rw [cell_of_row w _ _ cur b.ty fr hg]; exact hv, hr⟩
theorem popLoad_ok {t : TypeId} {x : Slot} {a : Value} (H : HR W0 w h m) (K : popLoad P W0 t x h N) (hx : LR w h m x a) :
    ∃ v, (Instr.loadAt t a).run P w = .ok v w ∧ OpOut W0 w h m N v w := by
  unfold popLoad at K
  split at K
  · rename_i cs
    cases hx with
    | rop _ g off vs hg hav hcell hvs =>
      obtain ⟨v, r, h1, h2, h3⟩ := loadK_ok (P := P) K (fun j p hj => ⟨vs j, hcell j p hj, hvs j p hj⟩)
      exact ⟨v, by simpa [Instr.loadAt, Instr.sureAddr] using h1, OpOut.same H h2 h3⟩
  · rename_i id ver i o
    split at K
    · rename_i b hb
      obtain ⟨hver, K⟩ := K
      split at K
      · rename_i es he
        cases hx with
        | ptr _ _ _ _ ad hid hv hb' =>
          have e := hb' b hb hver
          subst e
          obtain ⟨v, r, h1, h2, h3⟩ := loadK_ok (P := P) K ((H.cellsAt hb he).drop o)
          exact ⟨v, by simpa [Instr.loadAt, Instr.sureAddr] using h1, OpOut.same H h2 h3⟩
      · exact K.elim
    · exact K.elim
  · rename_i ad
    obtain ⟨hsp, cs, hcs, K⟩ := K
    cases hx with
    | val _ _ =>
      obtain ⟨blk, off, spot⟩ := ad
      simp only at hsp hcs
      subst hsp
      have C : CellsAt w h m blk off (cs.map .val) := by
        intro j p hj
        rw [List.getElem?_map] at hj
        obtain ⟨u, hu, rfl⟩ := Option.map_eq_some_iff.1 hj
        obtain ⟨h1, h2⟩ := hcs j u hu
        refine ⟨u, ?_, .val u h2⟩
        rw [H.below.cell (World.block_lt_of_cell? W0 _ h1)]
        exact h1
      obtain ⟨v, r, h1, h2, h3⟩ := loadK_ok (P := P) K C
      exact ⟨v, by simpa [Instr.loadAt, Instr.sureAddr] using h1, OpOut.same H h2 h3⟩
  · exact K.elim
def slotCells : Slot → Option (List PV)
  | .sv (.one p) => some [p]
  | .sv (.agg ps) => some ps
  | _ => none
theorem slotCells_ok {x : Slot} {a : Value} {ps : List PV} (hx : LR w h m x a) (hc : slotCells x = some ps) :
    ∃ cs : List Value, a.cells = cs.toArray ∧ cs.length = ps.length ∧ (∀ u ∈ cs, u.oneCell' = true) ∧ ∀ (j : Nat) (p : PV) (u : Value), ps[j]? = some p → cs[j]? = some u → VR w h m p u := by
  unfold slotCells at hc
  split at hc
  · rename_i p
    obtain rfl := Option.some.inj hc
    have h1 := VR.oneCell hx
    refine ⟨[a], ?_, rfl, by simpa using h1, fun j q u hj hu => ?_⟩
    · cases a <;> first | rfl | (simp [Value.oneCell'] at h1)
    · cases j with
      | zero => simp at hj hu; subst hj; subst hu; exact hx
      | succ j => simp at hj
  · rename_i ps'
    obtain rfl := Option.some.inj hc
    obtain ⟨vs, rfl, hl, hv⟩ := hx
    refine ⟨vs, rfl, hl, fun u hu => ?_, hv⟩
    obtain ⟨j, hj, rfl⟩ := List.getElem_of_mem hu
    exact VR.oneCell (hv j (ps'[j]'(by omega)) vs[j] (List.getElem?_eq_getElem _) (List.getElem?_eq_getElem _))
  · cases hc
theorem run_storeCells_fr (g o : Nat) (t : TypeId) (fr : Nat × Nat) : ∀ (vs : List Value) (i : Nat) (cur : Array Value) (w : World), w.heap[g]? = some (.cells cur t fr) → (fr.2 ≤ fr.1 ∨ cur.size ≤ fr.1) → o + i + vs.length ≤ cur.size → (∀ v ∈ vs, v.oneCell' = true) →
    (storeCells ⟨g, o, none⟩ vs i).run P w = .ok () (w.setRow g (cur.toList.take (o + i) ++ vs ++ cur.toList.drop (o + i + vs.length)).toArray)
  | [], i, cur, w, hg, _, _, _ => by
    simp only [storeCells, List.append_nil, List.length_nil, Nat.add_zero, List.take_append_drop, Array.toArray_toList]
    rw [setRow_self w g cur t fr hg]
    rfl
  | v :: rest, i, cur, w, hg, hf, hl, h1 => by
    have hi : o + i < cur.size := by simp at hl; omega
    have hcell : w.cell? ⟨g, o + i, none⟩ = some cur[o + i] := by simp [World.cell?, hg, hi]
    have hfro : w.frozen? ⟨g, o + i, none⟩ = false := by
      obtain ⟨lo, hi'⟩ := fr
      simp only at hf
      simp only [World.frozen?, hg, Bool.and_eq_false_iff, decide_eq_false_iff_not]
      omega
    have hst : (store ((⟨g, o, none⟩ : Addr).add i) v).run P w = .ok () (w.setRow g (cur.setIfInBounds (o + i) v)) := by
      rw [addr_add, run_store P w _ v _ (h1 v (by simp)), hcell]
      simp [hfro, setCell_eq_setRow w g (o + i) cur t fr v hg]
    have ih := run_storeCells_fr g o t fr rest (i + 1) (cur.setIfInBounds (o + i) v) (w.setRow g (cur.setIfInBounds (o + i) v)) (setRow_heap w g cur _ t _ hg) (by simpa using hf) (by simp at hl ⊢; omega) (fun x hx => h1 x (by simp [hx]))
    simp only [storeCells, Sem.run_bind, hst, Result.andThen_ok, ih, setRow_setRow]
    congr 3
    have e := list_seg_step cur.toList (o + i) v rest (by simp at hl ⊢; omega)
    simpa [Array.toList_setIfInBounds, Nat.add_assoc] using e
def splice {α : Type} (l : List α) (o : Nat) (ps : List α) : List α := l.take o ++ ps ++ l.drop (o + ps.length)
def popStore (P : Program) (t : TypeId) (x y : Slot) (h : Hp) (N : Slot → Hp → Prop) : Prop :=
  match x with
  | .sv (.one (.ptr id ver i o)) =>
    match h.blk id with
    | some b => b.ver = ver ∧ (match b.es[i]? with
      | some es => (match slotCells y with
        | some ps => szOf P t = some ps.length ∧ o + ps.length ≤ es.length ∧ N (.tup []) (h.set id { b with es := b.es.set i (splice es o ps) })
        | none => False)
      | none => False)
    | none => False
  | _ => False
end
end Go.Pw
namespace Go.Pw
open Go Go.RowKit
theorem splice_get {α : Type} (l cs : List α) (o : Nat) (h : o + cs.length ≤ l.length) (x : Nat) :
    (splice l o cs)[x]? = if x < o then l[x]? else if x < o + cs.length then cs[x - o]? else l[x]? := by
  unfold splice
  rw [List.append_assoc, List.getElem?_append, List.length_take, Nat.min_eq_left (by omega)]
  split
  · rename_i hx
    rw [List.getElem?_take, if_pos hx]
  · rename_i hx
    rw [List.getElem?_append]
    by_cases h2 : x < o + cs.length
    · rw [if_pos (by omega), if_pos h2]
    · rw [if_neg (by omega), if_neg h2, List.getElem?_drop]
      congr 1
      omega
theorem splice_length {α : Type} (l cs : List α) (o : Nat) (h : o + cs.length ≤ l.length) : (splice l o cs).length = l.length := by
  unfold splice
  simp only [List.length_append, List.length_take, List.length_drop]
  omega
theorem elem_off {i k j sz o len : Nat} (hj : j < sz) (hk : k ≠ i) (ho : o + len ≤ sz) : ¬ (i * sz + o ≤ k * sz + j ∧ k * sz + j < i * sz + o + len) := by
  rintro ⟨h1, h2⟩
  rcases Nat.lt_or_gt_of_ne hk with h | h
  · have := Nat.mul_le_mul_right sz (show k + 1 ≤ i by omega)
    rw [Nat.add_mul, Nat.one_mul] at this
    omega
  · have := Nat.mul_le_mul_right sz (show i + 1 ≤ k by omega)
    rw [Nat.add_mul, Nat.one_mul] at this
    omega
section
variable {P : Program} {W0 w : World} {h : Hp} {m : Loc} {N : Slot → Hp → Prop}
theorem popStore_ok {t : TypeId} {x y : Slot} {a v : Value} (H : HR W0 w h m) (K : popStore P t x y h N) (hx : LR w h m x a) (hy : LR w h m y v) :
    ∃ w', (Instr.storeAt t a v).run P w = .ok () w' ∧ OpOut W0 w h m N undef w' := by
  unfold popStore at K
  split at K
  · rename_i id ver i o
    split at K
    · rename_i b hb
      obtain ⟨hver, K⟩ := K
      split at K
      · rename_i es he
        split at K
        · rename_i ps hps
          obtain ⟨hsz, hle, hN⟩ := K
          cases hx with
          | ptr _ _ _ _ ad hid hv hb' =>
            have e := hb' b hb hver
            subst e
            obtain ⟨cs, hcs, hl, h1, hvr⟩ := slotCells_ok hy hps
            obtain ⟨h0, cur, fr, hg, hcur, hes, hcap, hpl, hfr, hc⟩ := H.live id b hb
            have helen := (hc i es he).1
            have hilt : i < b.es.length := (List.getElem?_eq_some_iff.1 he).1
            have hend : (i + 1) * b.sz ≤ cur.size := by
              rw [hcur]; exact Nat.mul_le_mul_right _ (by omega)
            have hend' : i * b.sz + o + cs.length ≤ cur.size := by
              rw [Nat.add_mul, Nat.one_mul] at hend; omega
            have hst := run_storeCells_fr (P := P) (m id).1 (i * b.sz + o) b.ty fr cs 0 cur w hg hfr (by simpa using hend') h1
            simp only [Nat.add_zero] at hst
            refine ⟨w.setRow (m id).1 (splice cur.toList (i * b.sz + o) cs).toArray, ?_, .tup [], _, _, hN, LR.undef _ _ _, HR.upd H hb _ (m id).1 (m id).2 rfl rfl rfl (by simp) (fun k _ hk => setRow_other w _ k _ hk) (.inl rfl) (Nat.le_refl _) (fun _ => ⟨rfl, rfl, rfl, by simp⟩) ?_⟩
            · have hsz' := run_sizeOf' (P := P) hsz w
              simp only [Instr.storeAt, Instr.sureAddr, storeVar, Sem.run_bind, Sem.run_pure, Result.andThen_ok, hsz', hcs, List.size_toArray]
              rw [if_neg (by simp [hl])]
              exact hst
            · refine ⟨(splice cur.toList (i * b.sz + o) cs).toArray, fr, h0, setRow_heap w _ cur _ b.ty fr hg, ?_, by simpa using hes, hcap, hpl, ?_, ?_⟩
              · simp only [List.size_toArray]
                rw [splice_length _ _ _ (by simpa using hend')]
                simpa using hcur
              · simp only [List.size_toArray]
                rw [splice_length _ _ _ (by simpa using hend')]
                simpa using hfr
              · intro k ek hk
                simp only [List.getElem?_set] at hk
                by_cases e : i = k
                · subst e
                  rw [if_pos rfl, if_pos hilt] at hk
                  obtain rfl := Option.some.inj hk
                  refine ⟨by rw [splice_length _ _ _ hle]; exact helen, fun j p hj => ?_⟩
                  rw [splice_get _ _ _ hle] at hj
                  simp only [List.getElem?_toArray]
                  rw [splice_get _ _ _ (by simpa using hend')]
                  by_cases hjo : j < o
                  · rw [if_pos hjo] at hj
                    rw [if_pos (by omega)]
                    obtain ⟨u, hu, hr⟩ := (hc i es he).2 j p hj
                    exact ⟨u, by simpa using hu, hr⟩
                  · rw [if_neg hjo] at hj
                    rw [if_neg (by omega)]
                    by_cases hjl : j < o + ps.length
                    · rw [if_pos hjl] at hj
                      rw [if_pos (by omega)]
                      have hlt : j - o < cs.length := by omega
                      refine ⟨cs[j - o], ?_, hvr (j - o) p cs[j - o] hj (List.getElem?_eq_getElem hlt)⟩
                      rw [show i * b.sz + j - (i * b.sz + o) = j - o by omega]
                      exact List.getElem?_eq_getElem hlt
                    · rw [if_neg hjl] at hj
                      rw [if_neg (by omega)]
                      obtain ⟨u, hu, hr⟩ := (hc i es he).2 j p hj
                      exact ⟨u, by simpa using hu, hr⟩
                · rw [if_neg e] at hk
                  refine ⟨(hc k ek hk).1, fun j p hj => ?_⟩
                  obtain ⟨u, hu, hr⟩ := (hc k ek hk).2 j p hj
                  have hjs : j < b.sz := by
                    have := (List.getElem?_eq_some_iff.1 hj).1
                    rw [(hc k ek hk).1] at this
                    exact this
                  have hout := elem_off (i := i) (k := k) (o := o) (len := cs.length) hjs (fun e' => e e'.symm) (by omega)
                  refine ⟨u, ?_, hr⟩
                  simp only [List.getElem?_toArray]
                  rw [splice_get _ _ _ (by simpa using hend')]
                  by_cases hx1 : k * b.sz + j < i * b.sz + o
                  · rw [if_pos hx1]; simpa using hu
                  · rw [if_neg hx1, if_neg (by omega)]; simpa using hu
        · exact K.elim
      · exact K.elim
    · exact K.elim
  · exact K.elim
theorem newVar_ok {t : TypeId} {cs : List Value} {ps : List PV} {v : Value} (H : HR W0 w h m) (hcs : v.cells = cs.toArray) (hl : cs.length = ps.length) (h0 : 0 < ps.length)
    (hvr : ∀ (j : Nat) (p : PV) (u : Value), ps[j]? = some p → cs[j]? = some u → VR w h m p u)
    (K : ∀ id, h.lim ≤ id → N (.sv (.one (.ptr id 0 0 0))) (h.new id ⟨t, ps.length, [ps], 0, true⟩)) :
    OpOut W0 w h m N (.pointer (some ⟨w.heap.size, 0, none⟩)) { w with heap := w.heap.push (.cells v.cells t) } := by
  have hB : Below w.heap.size w { w with heap := w.heap.push (.cells v.cells t) } := (Below.refl _ w).alloc (Nat.le_refl _) (.cells v.cells t)
  have X := HR.born H (Nat.le_refl h.lim) ⟨t, ps.length, [ps], 0, true⟩ w.heap.size 1 hB (Nat.le_refl _)
    ⟨v.cells, (0, 0), h0, heap_alloc_new w _, by rw [hcs]; simp [hl], by simp, by simp [maxLen], fun _ => rfl, .inl (Nat.le_refl _), fun i es hi => by
      cases i with
      | zero =>
        simp at hi
        subst hi
        refine ⟨rfl, fun j p hj => ?_⟩
        have hlt : j < cs.length := by have := (List.getElem?_eq_some_iff.1 hj).1; omega
        exact ⟨cs[j], by rw [hcs]; simp [hlt], hvr j p _ hj (List.getElem?_eq_getElem hlt)⟩
      | succ i => simp at hi⟩
  refine ⟨_, _, _, K h.lim (Nat.le_refl _), ?_, X.1, X.2⟩
  refine .ptr _ _ _ _ _ (by simp [Hp.new]) (fun b hb => Nat.zero_le _) (fun b hb _ => ?_)
  simp [Loc.set]
def popBox (t : TypeId) (x : Slot) (h : Hp) (N : Slot → Hp → Prop) : Prop :=
  match slotCells x with
  | some ps => 0 < ps.length ∧ ∀ id, h.lim ≤ id → N (.sv (.one (.ptr id 0 0 0))) (h.new id ⟨t, ps.length, [ps], 0, true⟩)
  | none => False
theorem popBox_ok {t : TypeId} {x : Slot} {v : Value} (H : HR W0 w h m) (K : popBox t x h N) (hx : LR w h m x v) :
    ∃ u w', (Instr.box t v).run P w = .ok u w' ∧ OpOut W0 w h m N u w' := by
  unfold popBox at K
  split at K
  · rename_i ps hps
    obtain ⟨cs, hcs, hl, h1, hvr⟩ := slotCells_ok hx hps
    exact ⟨_, _, by simp [Instr.box, newVar, newRow], newVar_ok H hcs hl K.1 hvr K.2⟩
  · exact K.elim
def popBoxRo (x : Slot) (h : Hp) (N : Slot → Hp → Prop) : Prop :=
  match slotCells x with
  | some ps => 0 < ps.length ∧ N (.sv (.one (.rop ps))) h
  | none => False
theorem popBoxRo_ok {t : TypeId} {x : Slot} {v : Value} (H : HR W0 w h m) (K : popBoxRo x h N) (hx : LR w h m x v) :
    ∃ u w', (Instr.box t v).run P w = .ok u w' ∧ OpOut W0 w h m N u w' := by
  unfold popBoxRo at K
  split at K
  · rename_i ps hps
    obtain ⟨cs, hcs, hl, h1, hvr⟩ := slotCells_ok hx hps
    have hB : Below w.heap.size w { w with heap := w.heap.push (.cells v.cells t) } := (Below.refl _ w).alloc (Nat.le_refl _) (.cells v.cells t)
    have hg := heap_alloc_new w (.cells v.cells t)
    refine ⟨.pointer (some ⟨w.heap.size, 0, none⟩), { w with heap := w.heap.push (.cells v.cells t) }, by simp [Instr.box, newVar, newRow], _, h, m, K.2, ?_, H.grow hB, Ext.grow hB⟩
    refine VR.rop ps w.heap.size 0 (fun j => (cs[j]?).getD undef) (by simp) (fun id b hb e => by have := (H.live id b hb).lt; omega) (fun j p hj => ?_) (fun j p hj => ?_)
    · have hlt : j < cs.length := by have := (List.getElem?_eq_some_iff.1 hj).1; omega
      have := cell_of_row (w.alloc (.cells v.cells t)) w.heap.size (0 + j) v.cells t (0, 0) hg
      refine Eq.trans this ?_
      rw [hcs, Nat.zero_add]
      simp [hlt]
    · have hlt : j < cs.length := by have := (List.getElem?_eq_some_iff.1 hj).1; omega
      rw [List.getElem?_eq_getElem hlt]
      exact (hvr j p _ hj (List.getElem?_eq_getElem hlt)).ext (Ext.grow hB)
  · exact K.elim
def popAlloc (P : Program) (t : TypeId) (h : Hp) (N : Slot → Hp → Prop) : Prop :=
  match zeroOf P t with
  | some z => popBox t (constSlot z) h N
  | none => False
theorem popAlloc_ok {t : TypeId} (H : HR W0 w h m) (K : popAlloc P t h N) :
    ∃ u w', (Instr.alloc t true (.tuple #[])).run P w = .ok u w' ∧ OpOut W0 w h m N u w' := by
  unfold popAlloc at K
  split at K
  · rename_i z hz
    obtain ⟨u, w', hr, ho⟩ := popBox_ok (P := P) H K (constSlot_ok w h m z)
    refine ⟨u, w', ?_, ho⟩
    simp only [Instr.alloc, Sem.run_bind, run_zeroValue hz, Result.andThen_ok]
    simpa [Instr.box] using hr
  · exact K.elim
end
end Go.Pw
