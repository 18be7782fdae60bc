/-
  PW, part K: conversions, aggregates that are built.
-/
import Derived.Test.YtjhgmempnhjflaaDoorPwJ
import Derived.Lib.ConvBytes
import Derived.Laws.BytesString
import Derived.Laws.Runes
namespace Go.Pw
open Go Go.RowKit

def byteCell (b : UInt8) : List PV := [.val (.int .u8 b.toNat)]

section
variable {P : Program} {W0 w : World} {h : Hp} {m : Loc} {N : Slot → Hp → Prop}

def popConvert (P : Program) (s d : TypeId) (x : Slot) (h : Hp) (N : Slot → Hp → Prop) : Prop :=
  match P.underlying s, P.underlying d, x with
  | some _, some (.int k), .sv (.one (.val (.int _ n))) => N (.sv (.one (.val (.int k (k.wrap n))))) h
  | some _, some .string, .sv (.one (.val (.string t))) => N (.sv (.one (.val (.string t)))) h
  | some _, some .string, .sv (.one (.val (.int _ n))) => N (.sv (.one (.val (.string (Utf8.encode n))))) h
  | some _, some (.slice e), .sv (.one (.val (.string t))) => P.underlying e = some (.int .u8) ∧ t.size ≤ 9223372036854775807 ∧
      ∀ id, h.lim ≤ id → N (.sv (.one (.own id 0 0 t.size))) (h.new id ⟨e, 1, t.data.toList.map byteCell, 0, false⟩)
  | some (.slice e), some .string, y => P.underlying e = some (.int .u8) ∧ ∃ l : List UInt8, (∃ sz, srcOf h y = some (sz, l.map byteCell)) ∧ N (.sv (.one (.val (.string ⟨l.toArray⟩)))) h
  | _, _, _ => False

theorem push_bytes (l : List UInt8) : ∀ s : ByteArray, (l.map fun b => (b.toNat : Int)).foldl (fun r n => r.push (UInt8.ofNat n.toNat)) s = ⟨s.data ++ l.toArray⟩ := by
  induction l with
  | nil => intro s; simp
  | cons b l ih =>
    intro s
    simp only [List.map_cons, List.foldl_cons, ih]
    simp [ByteArray.push]

theorem popConvert_ok {s d : TypeId} {x : Slot} {a : Value} (H : HR W0 w h m) (hk : popConvert P s d x h N) (hx : LR w h m x a) :
    ∃ v w', (convert s d a).run P w = .ok v w' ∧ OpOut W0 w h m N v w' := by
  unfold popConvert at hk
  split at hk
  · rename_i u k k' n hs hd
    cases hx
    refine ⟨_, _, ?_, OpOut.same H hk (.val _ rfl)⟩
    cases u <;> simp only [convert, Sem.run_bind, run_underlying hs, run_underlying hd, Result.andThen_ok] <;> rfl
  · rename_i u t hs hd
    cases hx
    refine ⟨_, _, ?_, OpOut.same H hk (.val _ rfl)⟩
    cases u <;> simp only [convert, Sem.run_bind, run_underlying hs, run_underlying hd, Result.andThen_ok] <;> rfl
  · rename_i u k n hs hd
    cases hx
    exact ⟨_, _, run_convert_int_string w s d k n (by rw [hs]; rfl) hd, OpOut.same H hk (.val _ rfl)⟩
  · rename_i u e t hs hd
    obtain ⟨he, hsz, hN⟩ := hk
    cases hx
    refine ⟨_, _, Lib.run_convert_string_bytes w s d e t hs hd he, ?_⟩
    have hge := grownCap_ge w t.size 0 e
    have hcells : (Lib.bytesCells w e t).size = grownCap w t.size 0 e := by
      simp only [Lib.bytesCells, Array.size_append, Array.size_map, Array.size_replicate]
      have : t.data.size = t.size := rfl
      omega
    have hB : Below w.heap.size w (Lib.bytesWorld w e t) := ⟨rfl, rfl, rfl, by rw [Lib.bytesWorld_size]; omega, fun k hk => Lib.bytesWorld_at_old w e t k hk⟩
    have X := HR.born H (Nat.le_refl h.lim) ⟨e, 1, t.data.toList.map byteCell, 0, false⟩ w.heap.size (grownCap w t.size 0 e) hB (Nat.le_refl _)
      ⟨_, _, Nat.one_pos, Lib.bytesWorld_at_new w e t, by rw [hcells, Nat.mul_one], by simpa using hge, grownCap_le_maxLen w _ _ _ (by unfold maxLen; omega), (fun e => by cases e), .inr (Nat.le_refl _), fun i es hi => by
        simp only [List.getElem?_map] at hi
        obtain ⟨b, hb, rfl⟩ := Option.map_eq_some_iff.1 hi
        refine ⟨rfl, fun j p hj => ?_⟩
        cases j with
        | zero =>
          simp only [byteCell, List.getElem?_cons_zero, Option.some.injEq] at hj
          subst hj
          refine ⟨.int .u8 b.toNat, ?_, .val _ rfl⟩
          have hlt : i < t.data.size := by have := (List.getElem?_eq_some_iff.1 hb).1; simpa using this
          simp only [Lib.bytesCells, Nat.mul_one, Nat.add_zero]
          rw [Array.getElem?_append_left (by simpa using hlt), Array.getElem?_map]
          have : t.data[i]? = some b := by simpa using hb
          rw [this]
          rfl
        | succ j => simp [byteCell] at hj⟩
    refine ⟨_, _, _, hN h.lim (Nat.le_refl _), ?_, X.1, X.2⟩
    refine .own _ _ _ _ _ _ (by simp [Hp.new]) (fun _ _ => Nat.zero_le _) (fun b hb _ => ?_)
    simp only [Hp.new, if_true, Option.some.injEq] at hb
    subst hb
    simp only [Loc.set, if_true, List.length_map, Array.length_toList, Nat.zero_add, Nat.zero_mul, Nat.sub_zero, Nat.zero_le, and_self, implies_true, and_true]
    exact Nat.le_refl _
  · rename_i e hs hd _ _
    obtain ⟨he, l, ⟨sz, hsrc⟩, hN⟩ := hk
    obtain ⟨ad, c, rfl, hlc, hrow, hnone⟩ := srcOf_ok H hsrc hx
    refine ⟨.string ⟨l.toArray⟩, w, ?_, OpOut.same H hN (.val _ rfl)⟩
    have run : ∀ (v : Value), (match v with | .slice _ _ _ => True | _ => False) → (convert s d v).run P w = (Conv.bytesToString v).run P w := by
      intro v hv
      cases v <;> first
        | exact hv.elim
        | simp only [convert, Sem.run_bind, run_underlying hs, run_underlying hd, run_underlying he, Result.andThen_ok]
    rw [run _ trivial]
    by_cases hl0 : l = []
    · subst hl0
      cases ad with
      | none => rfl
      | some a =>
        have := run_bytesToString (P := P) w a 0 c [] (by simp [loadCells, loadCellsFrom])
        exact this
    · have hne : l.map byteCell ≠ [] := by simpa using hl0
      obtain ⟨g, off, rfl, R⟩ := hrow.resolve_left hne
      have hsz : sz = 1 := by
        cases l with
        | nil => exact absurd rfl hl0
        | cons b l => have := (R 0 (byteCell b) rfl).1; simpa [byteCell] using this.symm
      subst hsz
      have hload := run_loadCells_list (P := P) w ⟨g, off, none⟩ (l.map fun b => Value.int .u8 b.toNat) (fun j v hj => by
        simp only [List.getElem?_map] at hj
        obtain ⟨b, hb, rfl⟩ := Option.map_eq_some_iff.1 hj
        obtain ⟨_, hc⟩ := R j (byteCell b) (by simp [hb])
        obtain ⟨u, hu, hr⟩ := hc 0 _ rfl
        cases hr
        rw [addr_add]
        simpa using hu)
      have hload' : (loadCells ⟨g, off, none⟩ (l.map byteCell).length).run P w = .ok ((l.map fun b => (b.toNat : Int)).map (Value.int .u8)).toArray w := by
        rw [List.map_map, List.length_map]
        rw [List.length_map] at hload
        exact hload
      rw [run_bytesToString (P := P) w ⟨g, off, none⟩ _ c _ hload', push_bytes]
      congr 3
      show (ByteArray.empty).data ++ l.toArray = l.toArray
      simp
  · exact hk.elim

/-- The places of an aggregate's parts. -/
def placesOf (P : Program) (t : TypeId) : Option (List (Nat × Nat)) :=
  match P.underlying t with
  | some (.struct fs) => fs.toList.mapM fun f => (szOf P f.type).map fun n => (f.offset, n)
  | some (.array n e) => (szOf P e).map fun sz => (List.range n).map fun i => (i * sz, sz)
  | _ => none

def fillP (places : List (Nat × Nat)) : List PV → List (Nat × Slot) → Option (List PV)
  | ps, [] => some ps
  | ps, (i, s) :: rest => match places[i]?, slotCells s with
    | some (off, size), some cs => if cs.length = size ∧ off + size ≤ ps.length then fillP places (splice ps off cs) rest else none
    | _, _ => none

def popBuild (P : Program) (t : TypeId) (parts : List (Nat × Slot)) (N : Slot → Prop) : Prop :=
  match placesOf P t, zeroOf P t with
  | some pl, some z => z.cells.all (·.oneCell') = true ∧ (match fillP pl (zeroCells' z) parts with
    | some ps => N (.sv (.agg ps))
    | none => False)
  | _, _ => False

theorem fill_ok {places : List (Nat × Nat)} {place : Nat → Option (Nat × Nat)} (hp : ∀ i x, places[i]? = some x → place i = some x) :
    ∀ {parts : List (Nat × Slot)} {vals : List (Nat × Value)} {ps ps' : List PV} {cells : Array Value}, fillP places ps parts = some ps' → parts.length = vals.length →
    (∀ (i : Nat) (x : Nat × Slot) (y : Nat × Value), parts[i]? = some x → vals[i]? = some y → x.1 = y.1 ∧ LR w h m x.2 y.2) →
    cells.size = ps.length → (∀ (j : Nat) (p : PV) (u : Value), ps[j]? = some p → cells[j]? = some u → VR w h m p u) →
    ∃ cells', Instr.fill place cells vals = some cells' ∧ cells'.size = ps'.length ∧ ∀ (j : Nat) (p : PV) (u : Value), ps'[j]? = some p → cells'[j]? = some u → VR w h m p u
  | [], vals, ps, ps', cells, hf, hl, _, hsz, hv => by
    obtain rfl : vals = [] := List.eq_nil_of_length_eq_zero (by simpa using hl.symm)
    simp only [fillP, Option.some.injEq] at hf
    subst hf
    exact ⟨cells, rfl, hsz, hv⟩
  | (i, s) :: parts, [], ps, ps', cells, hf, hl, _, hsz, hv => by simp at hl
  | (i, s) :: parts, (i', v) :: vals, ps, ps', cells, hf, hl, hr, hsz, hv => by
    obtain ⟨e, hsv⟩ := hr 0 _ _ rfl rfl
    simp only at e hsv
    subst e
    simp only [fillP] at hf
    split at hf
    · rename_i off size cs hpl hcs
      split at hf
      · rename_i hcond
        obtain ⟨c1, c2⟩ := hcond
        obtain ⟨us, h1, h2, h3, h4⟩ := slotCells_ok hsv hcs
        obtain ⟨f1, f2⟩ := Great.foldl_set off us 0 cells
        have hfold : (v.cells.zipIdx.foldl (fun cs (c, j) => cs.setIfInBounds (off + j) c) cells) = (us.zipIdx 0).foldl (fun cs (x : Value × Nat) => cs.setIfInBounds (off + x.2) x.1) cells := by
          rw [h1, ← Array.foldl_toList]
          simp
        have hspl := splice_length ps cs off (by omega)
        obtain ⟨cells', g1, g2, g3⟩ := fill_ok hp (cells := (us.zipIdx 0).foldl (fun cs (x : Value × Nat) => cs.setIfInBounds (off + x.2) x.1) cells) hf (by simpa using hl) (fun k x y hx hy => hr (k + 1) x y (by simpa using hx) (by simpa using hy))
          (by rw [f1, hspl]; exact hsz) (fun j p u hj hu => by
            rw [splice_get _ _ _ (by omega)] at hj
            rw [f2] at hu
            simp only [Nat.add_zero] at hu
            by_cases j1 : j < off
            · rw [if_pos j1] at hj
              rw [if_neg (by omega)] at hu
              exact hv j p u hj hu
            · rw [if_neg j1] at hj
              by_cases j2 : j < off + cs.length
              · rw [if_pos j2] at hj
                rw [if_pos ⟨by omega, by omega, by omega⟩] at hu
                exact h4 _ p u hj hu
              · rw [if_neg j2] at hj
                rw [if_neg (by omega)] at hu
                exact hv j p u hj hu)
        refine ⟨cells', ?_, g2, g3⟩
        have hvs : v.cells.size = us.length := by rw [h1]; simp
        simp only [Instr.fill, hp _ _ hpl]
        rw [if_neg (by simp only [ne_eq, Bool.or_eq_true, decide_eq_true_eq]; omega), hfold]
        exact g1
      · cases hf
    · cases hf

theorem popBuild_ok {t : TypeId} {parts : List (Nat × Slot)} {vals : List (Nat × Value)} {K : Slot → Prop} (hk : popBuild P t parts K) (hl : parts.length = vals.length)
    (hr : ∀ (i : Nat) (x : Nat × Slot) (y : Nat × Value), parts[i]? = some x → vals[i]? = some y → x.1 = y.1 ∧ LR w h m x.2 y.2) :
    ∃ v r, (Instr.build t vals.toArray).run P w = .ok v w ∧ K r ∧ LR w h m r v := by
  unfold popBuild at hk
  split at hk
  · rename_i pl z hpl hz
    obtain ⟨hz1, hk⟩ := hk
    split at hk
    · rename_i ps hps
      have hzv : ∀ (j : Nat) (p : PV) (u : Value), (zeroCells' z)[j]? = some p → z.cells[j]? = some u → VR w h m p u := fun j p u hj hu => by
        have hu' : z.cells.toList[j]? = some u := by simpa using hu
        simp only [zeroCells', List.getElem?_map, hu', Option.map_some, Option.some.injEq] at hj
        subst hj
        exact .val u (Array.all_eq_true_iff_forall_mem.1 hz1 u (by have := List.mem_of_getElem? hu'; simpa using this))
      have fin : ∀ place : Nat → Option (Nat × Nat), (∀ i x, pl[i]? = some x → place i = some x) → ∃ cells', Instr.fill place z.cells vals = some cells' ∧ ∃ r, K r ∧ LR w h m r (.agg cells') := by
        intro place hp
        obtain ⟨cells', g1, g2, g3⟩ := fill_ok hp (cells := z.cells) hps hl hr (by simp [zeroCells']) hzv
        exact ⟨cells', g1, _, hk, cells'.toList, by simp, by simpa using g2, fun j p u hj hu => g3 j p u hj (by simpa using hu)⟩
      unfold zeroOf at hz
      obtain ⟨it, hit, hzz⟩ := Option.bind_eq_some_iff.1 hz
      unfold placesOf at hpl
      split at hpl
      · rename_i fs hd
        have hpl' : fs.toList.mapM (fun f => (P.info? f.type).map fun i => (f.offset, i.size)) = some pl := by
          rw [← hpl]
          congr 1
          funext f
          simp only [szOf, Option.map_map]
          rfl
        obtain ⟨cells', g1, r, hK, hR⟩ := fin (pl.toArray[·]?) (fun i x hx => by simpa using hx)
        refine ⟨.agg cells', r, run_build w t vals.toArray cells' ?_, hK, hR⟩
        simp only [Program.built, hit, hd, hzz, hpl']
        exact g1
      · rename_i n e hd
        obtain ⟨sz, hs, hpl⟩ := Option.map_eq_some_iff.1 hpl
        obtain ⟨ie, hie, hsz⟩ := Option.map_eq_some_iff.1 hs
        subst hsz
        obtain ⟨cells', g1, r, hK, hR⟩ := fin (fun i => some (i * ie.size, ie.size)) (fun i x hx => by
          rw [← hpl, List.getElem?_map] at hx
          obtain ⟨k, hk', rfl⟩ := Option.map_eq_some_iff.1 hx
          rw [List.getElem?_eq_some_iff] at hk'
          obtain ⟨hlt, rfl⟩ := hk'
          simp)
        refine ⟨.agg cells', r, run_build w t vals.toArray cells' ?_, hK, hR⟩
        simp only [Program.built, hit, hd, hzz, hie]
        exact g1
      · cases hpl
    · exact hk.elim
  · exact hk.elim

end
end Go.Pw
