/-
  PW, part B: the heap's relation, and how it goes on: nothing but new blocks; a new block of the pure heap; a block that is written or moved; blocks that are forgotten.
-/
import Derived.Test.YtjhgmempnhjflaaDoorPwA
namespace Go.Pw
open Go Go.RowKit

def Hp.set (h : Hp) (id : Nat) (b : Blk) : Hp := ⟨fun j => if j = id then some b else h.blk j, h.lim⟩
def Hp.new (h : Hp) (id : Nat) (b : Blk) : Hp := ⟨fun j => if j = id then some b else h.blk j, id + 1⟩
def Loc.set (m : Loc) (id : Nat) (x : Nat × Nat) : Loc := fun j => if j = id then x else m j

def BR (w : World) (h : Hp) (m : Loc) (g cap : Nat) (b : Blk) : Prop :=
  0 < b.sz ∧ ∃ cur fr, w.heap[g]? = some (.cells cur b.ty fr) ∧ cur.size = cap * b.sz ∧ b.es.length ≤ cap ∧ cap ≤ maxLen ∧ (b.plain = true → fr = (0, 0)) ∧ (fr.2 ≤ fr.1 ∨ cur.size ≤ fr.1) ∧
    ∀ (i : Nat) (es : List PV), b.es[i]? = some es → es.length = b.sz ∧ ∀ (j : Nat) (p : PV), es[j]? = some p → ∃ v, cur[i * b.sz + j]? = some v ∧ VR w h m p v

structure HR (W0 w : World) (h : Hp) (m : Loc) : Prop where
  below : Below W0.heap.size W0 w
  bound : ∀ id b, h.blk id = some b → id < h.lim
  far : ∀ id b, h.blk id = some b → W0.heap.size ≤ (m id).1
  live : ∀ id b, h.blk id = some b → BR w h m (m id).1 (m id).2 b
  inj : ∀ i j b c, h.blk i = some b → h.blk j = some c → (m i).1 = (m j).1 → i = j

theorem BR.ext {w w' : World} {h h' : Hp} {m m' : Loc} {g cap : Nat} {b : Blk} (H : BR w h m g cap b) (x : Ext w h m w' h' m') (hg : w'.heap[g]? = w.heap[g]?) : BR w' h' m' g cap b := by
  obtain ⟨h0, cur, fr, h1, h2, h3, h4, h5, h6, h7⟩ := H
  refine ⟨h0, cur, fr, hg.trans h1, h2, h3, h4, h5, h6, fun i es hi => ⟨(h7 i es hi).1, fun j p hj => ?_⟩⟩
  obtain ⟨v, hv, hr⟩ := (h7 i es hi).2 j p hj
  exact ⟨v, hv, hr.ext x⟩

theorem BR.lt {w : World} {h : Hp} {m : Loc} {g cap : Nat} {b : Blk} (H : BR w h m g cap b) : g < w.heap.size := by
  obtain ⟨_, cur, fr, h1, _⟩ := H
  exact (Array.getElem?_eq_some_iff.1 h1).1

theorem Ext.grow {w w' : World} {h : Hp} {m : Loc} (b : Below w.heap.size w w') : Ext w h m w' h m :=
  ⟨b.size, Nat.le_refl _, fun g hg hav => ⟨b.block g hg, hav⟩, fun _ b' _ hb => ⟨b', hb, Nat.le_refl _, fun _ => ⟨rfl, rfl, rfl⟩⟩⟩

theorem HR.grow {W0 w w' : World} {h : Hp} {m : Loc} (H : HR W0 w h m) (b : Below w.heap.size w w') : HR W0 w' h m :=
  ⟨H.below.trans (b.mono H.below.size), H.bound, H.far, fun id bl hb => (H.live id bl hb).ext (Ext.grow b) (b.block _ (H.live id bl hb).lt), H.inj⟩

theorem Below.heapSame {w w' : World} (ho : w'.os = w.os) (ht : w'.tape = w.tape) (hu : w'.output = w.output) (hh : w'.heap = w.heap) : Below w.heap.size w w' :=
  ⟨ho, ht, hu, by rw [hh]; exact Nat.le_refl _, fun _ _ => by rw [hh]⟩

/-- A block of the pure heap is written, or moved to a new place. -/
theorem HR.upd {W0 w w' : World} {h : Hp} {m : Loc} (H : HR W0 w h m) {id : Nat} {b : Blk} (hb : h.blk id = some b) (b' : Blk) (g' cap' : Nat)
    (ho : w'.os = w.os) (ht : w'.tape = w.tape) (hu : w'.output = w.output) (hs : w.heap.size ≤ w'.heap.size)
    (hoth : ∀ k, k < w.heap.size → k ≠ (m id).1 → w'.heap[k]? = w.heap[k]?)
    (hg' : g' = (m id).1 ∨ w.heap.size ≤ g')
    (hver : b.ver ≤ b'.ver) (hsame : b.ver = b'.ver → g' = (m id).1 ∧ cap' = (m id).2 ∧ b'.sz = b.sz ∧ b'.es.length = b.es.length)
    (hBR : ∃ cur fr, 0 < b'.sz ∧ w'.heap[g']? = some (.cells cur b'.ty fr) ∧ cur.size = cap' * b'.sz ∧ b'.es.length ≤ cap' ∧ cap' ≤ maxLen ∧ (b'.plain = true → fr = (0, 0)) ∧ (fr.2 ≤ fr.1 ∨ cur.size ≤ fr.1) ∧
      ∀ (i : Nat) (es : List PV), b'.es[i]? = some es → es.length = b'.sz ∧ ∀ (j : Nat) (p : PV), es[j]? = some p → ∃ v, cur[i * b'.sz + j]? = some v ∧ VR w h m p v) :
    HR W0 w' (h.set id b') (m.set id (g', cap')) ∧ Ext w h m w' (h.set id b') (m.set id (g', cap')) := by
  have hfar := H.far id b hb
  have hlt := (H.live id b hb).lt
  have x : Ext w h m w' (h.set id b') (m.set id (g', cap')) := by
    refine ⟨hs, Nat.le_refl _, fun g hg hav => ⟨hoth g hg (fun e => hav id b hb e.symm), fun j c hj => ?_⟩, fun j c hj hc => ?_⟩
    · by_cases e : j = id
      · subst e
        simp only [Loc.set, if_true]
        rcases hg' with e | e
        · rw [e]; exact hav j b hb
        · omega
      · simp only [Hp.set, if_neg e] at hj
        simp only [Loc.set, if_neg e]
        exact hav j c hj
    · by_cases e : j = id
      · subst e
        simp only [Hp.set, if_true] at hc
        obtain rfl := Option.some.inj hc
        refine ⟨b, hb, hver, fun hv => ?_⟩
        obtain ⟨e1, e2, e3, e4⟩ := hsame hv
        refine ⟨?_, e3, e4⟩
        simp only [Loc.set, if_true]
        rw [e1, e2]
      · simp only [Hp.set, if_neg e] at hc
        exact ⟨c, hc, Nat.le_refl _, fun _ => ⟨by simp only [Loc.set, if_neg e], rfl, rfl⟩⟩
  refine ⟨⟨?_, ?_, ?_, ?_, ?_⟩, x⟩
  · have hW := H.below
    exact ⟨ho.trans hW.os, ht.trans hW.tape, hu.trans hW.output, Nat.le_trans hW.size hs, fun k hk => (hoth k (Nat.lt_of_lt_of_le hk hW.size) (by omega)).trans (hW.block k hk)⟩
  · intro j c hj
    by_cases e : j = id
    · subst e; exact H.bound j b hb
    · simp only [Hp.set, if_neg e] at hj; exact H.bound j c hj
  · intro j c hj
    by_cases e : j = id
    · subst e
      simp only [Loc.set, if_true]
      rcases hg' with e | e
      · rw [e]; exact hfar
      · exact Nat.le_trans H.below.size e
    · simp only [Hp.set, if_neg e] at hj
      simp only [Loc.set, if_neg e]
      exact H.far j c hj
  · intro j c hj
    by_cases e : j = id
    · subst e
      simp only [Hp.set, if_true] at hj
      obtain rfl := Option.some.inj hj
      simp only [Loc.set, if_true]
      obtain ⟨cur, fr, h0, h1, h2, h3, h4, h5, h6, h7⟩ := hBR
      refine ⟨h0, cur, fr, h1, h2, h3, h4, h5, h6, fun i es hi => ⟨(h7 i es hi).1, fun k p hk => ?_⟩⟩
      obtain ⟨v, hv, hr⟩ := (h7 i es hi).2 k p hk
      exact ⟨v, hv, hr.ext x⟩
    · simp only [Hp.set, if_neg e] at hj
      simp only [Loc.set, if_neg e]
      have hl := H.live j c hj
      exact hl.ext x (hoth _ hl.lt (fun e' => e (H.inj j id c b hj hb e')))
  · intro i j bi bj hi hj hij
    by_cases ei : i = id <;> by_cases ej : j = id
    · rw [ei, ej]
    · subst ei
      simp only [Hp.set, if_neg ej] at hj
      simp only [Loc.set, if_true, if_neg ej] at hij
      rcases hg' with e | e
      · exact H.inj i j b bj hb hj (by rw [← e, hij])
      · have := (H.live j bj hj).lt; omega
    · subst ej
      simp only [Hp.set, if_neg ei] at hi
      simp only [Loc.set, if_true, if_neg ei] at hij
      rcases hg' with e | e
      · exact H.inj i j bi b hi hb (by rw [← e, hij])
      · have := (H.live i bi hi).lt; omega
    · simp only [Hp.set, if_neg ei] at hi
      simp only [Hp.set, if_neg ej] at hj
      simp only [Loc.set, if_neg ei, if_neg ej] at hij
      exact H.inj i j bi bj hi hj hij

/-- A new block of the pure heap. -/
theorem HR.born {W0 w w' : World} {h : Hp} {m : Loc} (H : HR W0 w h m) {id : Nat} (hid : h.lim ≤ id) (b' : Blk) (g' cap' : Nat)
    (hB : Below w.heap.size w w') (hg' : w.heap.size ≤ g')
    (hBR : ∃ cur fr, 0 < b'.sz ∧ w'.heap[g']? = some (.cells cur b'.ty fr) ∧ cur.size = cap' * b'.sz ∧ b'.es.length ≤ cap' ∧ cap' ≤ maxLen ∧ (b'.plain = true → fr = (0, 0)) ∧ (fr.2 ≤ fr.1 ∨ cur.size ≤ fr.1) ∧
      ∀ (i : Nat) (es : List PV), b'.es[i]? = some es → es.length = b'.sz ∧ ∀ (j : Nat) (p : PV), es[j]? = some p → ∃ v, cur[i * b'.sz + j]? = some v ∧ VR w h m p v) :
    HR W0 w' (h.new id b') (m.set id (g', cap')) ∧ Ext w h m w' (h.new id b') (m.set id (g', cap')) := by
  have hfresh : ∀ b, h.blk id = some b → False := fun b hb => by have := H.bound id b hb; omega
  have x : Ext w h m w' (h.new id b') (m.set id (g', cap')) := by
    refine ⟨hB.size, by simp only [Hp.new]; omega, fun g hg hav => ⟨hB.block g hg, fun j c hj => ?_⟩, fun j c hj hc => ?_⟩
    · by_cases e : j = id
      · subst e
        simp only [Loc.set, if_true]
        omega
      · simp only [Hp.new, if_neg e] at hj
        simp only [Loc.set, if_neg e]
        exact hav j c hj
    · have e : j ≠ id := by omega
      simp only [Hp.new, if_neg e] at hc
      exact ⟨c, hc, Nat.le_refl _, fun _ => ⟨by simp only [Loc.set, if_neg e], rfl, rfl⟩⟩
  refine ⟨⟨H.below.trans (hB.mono H.below.size), ?_, ?_, ?_, ?_⟩, x⟩
  · intro j c hj
    by_cases e : j = id
    · subst e; simp only [Hp.new]; omega
    · simp only [Hp.new, if_neg e] at hj ⊢; have := H.bound j c hj; omega
  · intro j c hj
    by_cases e : j = id
    · subst e
      simp only [Loc.set, if_true]
      exact Nat.le_trans H.below.size hg'
    · simp only [Hp.new, if_neg e] at hj
      simp only [Loc.set, if_neg e]
      exact H.far j c hj
  · intro j c hj
    by_cases e : j = id
    · subst e
      simp only [Hp.new, if_true] at hj
      obtain rfl := Option.some.inj hj
      simp only [Loc.set, if_true]
      obtain ⟨cur, fr, h0, h1, h2, h3, h4, h5, h6, h7⟩ := hBR
      refine ⟨h0, cur, fr, h1, h2, h3, h4, h5, h6, fun i es hi => ⟨(h7 i es hi).1, fun k p hk => ?_⟩⟩
      obtain ⟨v, hv, hr⟩ := (h7 i es hi).2 k p hk
      exact ⟨v, hv, hr.ext x⟩
    · simp only [Hp.new, if_neg e] at hj
      simp only [Loc.set, if_neg e]
      have hl := H.live j c hj
      exact hl.ext x (hB.block _ hl.lt)
  · intro i j bi bj hi hj hij
    by_cases ei : i = id <;> by_cases ej : j = id
    · rw [ei, ej]
    · subst ei
      simp only [Hp.new, if_neg ej] at hj
      simp only [Loc.set, if_true, if_neg ej] at hij
      have := (H.live j bj hj).lt; omega
    · subst ej
      simp only [Hp.new, if_neg ei] at hi
      simp only [Loc.set, if_true, if_neg ei] at hij
      have := (H.live i bi hi).lt; omega
    · simp only [Hp.new, if_neg ei] at hi
      simp only [Hp.new, if_neg ej] at hj
      simp only [Loc.set, if_neg ei, if_neg ej] at hij
      exact H.inj i j bi bj hi hj hij

/-- h' has some of h's blocks. -/
structure Less (h h' : Hp) : Prop where
  blk : ∀ id b, h'.blk id = some b → h.blk id = some b
  lim : h.lim ≤ h'.lim

theorem Less.refl (h : Hp) : Less h h := ⟨fun _ _ h => h, Nat.le_refl _⟩
theorem Less.trans {a b c : Hp} (x : Less a b) (y : Less b c) : Less a c := ⟨fun id bl h => x.blk id bl (y.blk id bl h), Nat.le_trans x.lim y.lim⟩

theorem Less.ext {w : World} {h h' : Hp} {m : Loc} (l : Less h h') : Ext w h m w h' m :=
  ⟨Nat.le_refl _, l.lim, fun _ _ hav => ⟨rfl, fun id b hb => hav id b (l.blk id b hb)⟩, fun id b' _ hb => ⟨b', l.blk id b' hb, Nat.le_refl _, fun _ => ⟨rfl, rfl, rfl⟩⟩⟩

theorem HR.less {W0 w : World} {h h' : Hp} {m : Loc} (H : HR W0 w h m) (l : Less h h') : HR W0 w h' m :=
  ⟨H.below, fun id b hb => Nat.lt_of_lt_of_le (H.bound id b (l.blk id b hb)) l.lim, fun id b hb => H.far id b (l.blk id b hb), fun id b hb => (H.live id b (l.blk id b hb)).ext l.ext rfl,
   fun i j b c hb hc => H.inj i j b c (l.blk i b hb) (l.blk j c hc)⟩

end Go.Pw
