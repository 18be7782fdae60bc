/-
  PW, part F: stores, new variables, new rows.
-/
import Derived.Test.YtjhgmempnhjflaaDoorPwE
namespace Go.Pw
open Go Go.RowKit

theorem splice_get {α : Type} (l cs : List α) (o : Nat) (h : o + cs.length ≤ l.length) (x : Nat) :
    (splice l o cs)[x]? = if x < o then l[x]? else if x < o + cs.length then cs[x - o]? else l[x]? := by
  unfold splice
  rw [List.append_assoc, List.getElem?_append, List.length_take, Nat.min_eq_left (by omega)]
  split
  · rename_i hx
    rw [List.getElem?_take, if_pos hx]
  · rename_i hx
    rw [List.getElem?_append]
    by_cases h2 : x < o + cs.length
    · rw [if_pos (by omega), if_pos h2]
    · rw [if_neg (by omega), if_neg h2, List.getElem?_drop]
      congr 1
      omega

theorem splice_length {α : Type} (l cs : List α) (o : Nat) (h : o + cs.length ≤ l.length) : (splice l o cs).length = l.length := by
  unfold splice
  simp only [List.length_append, List.length_take, List.length_drop]
  omega

theorem setRow_os (w : World) (g : Nat) (cs : Array Value) : (w.setRow g cs).os = w.os ∧ (w.setRow g cs).tape = w.tape ∧ (w.setRow g cs).output = w.output := ⟨rfl, rfl, rfl⟩

theorem elem_off {i k j sz o len : Nat} (hj : j < sz) (hk : k ≠ i) (ho : o + len ≤ sz) : ¬ (i * sz + o ≤ k * sz + j ∧ k * sz + j < i * sz + o + len) := by
  rintro ⟨h1, h2⟩
  rcases Nat.lt_or_gt_of_ne hk with h | h
  · have := Nat.mul_le_mul_right sz (show k + 1 ≤ i by omega)
    rw [Nat.add_mul, Nat.one_mul] at this
    omega
  · have := Nat.mul_le_mul_right sz (show i + 1 ≤ k by omega)
    rw [Nat.add_mul, Nat.one_mul] at this
    omega

section
variable {P : Program} {W0 w : World} {h : Hp} {m : Loc} {N : Slot → Hp → Prop}

theorem popStore_ok {t : TypeId} {x y : Slot} {a v : Value} (H : HR W0 w h m) (K : popStore P t x y h N) (hx : LR w h m x a) (hy : LR w h m y v) :
    ∃ w', (Instr.storeAt t a v).run P w = .ok () w' ∧ OpOut W0 w h m N undef w' := by
  unfold popStore at K
  split at K
  · rename_i id ver i o
    split at K
    · rename_i b hb
      obtain ⟨hver, K⟩ := K
      split at K
      · rename_i es he
        split at K
        · rename_i ps hps
          obtain ⟨hsz, hle, hN⟩ := K
          cases hx with
          | ptr _ _ _ _ ad hid hv hb' =>
            have e := hb' b hb hver
            subst e
            obtain ⟨cs, hcs, hl, h1, hvr⟩ := slotCells_ok hy hps
            obtain ⟨h0, cur, fr, hg, hcur, hes, hcap, hpl, hfr, hc⟩ := H.live id b hb
            have helen := (hc i es he).1
            have hilt : i < b.es.length := (List.getElem?_eq_some_iff.1 he).1
            have hend : (i + 1) * b.sz ≤ cur.size := by
              rw [hcur]; exact Nat.mul_le_mul_right _ (by omega)
            have hend' : i * b.sz + o + cs.length ≤ cur.size := by
              rw [Nat.add_mul, Nat.one_mul] at hend; omega
            have hst := run_storeCells_fr (P := P) (m id).1 (i * b.sz + o) b.ty fr cs 0 cur w hg hfr (by simpa using hend') h1
            simp only [Nat.add_zero] at hst
            refine ⟨w.setRow (m id).1 (splice cur.toList (i * b.sz + o) cs).toArray, ?_, .tup [], _, _, hN, LR.undef _ _ _, HR.upd H hb _ (m id).1 (m id).2 rfl rfl rfl (by simp) (fun k _ hk => setRow_other w _ k _ hk) (.inl rfl) (Nat.le_refl _) (fun _ => ⟨rfl, rfl, rfl, by simp⟩) ?_⟩
            · have hsz' := run_sizeOf' (P := P) hsz w
              simp only [Instr.storeAt, Instr.sureAddr, storeVar, Sem.run_bind, Sem.run_pure, Result.andThen_ok, hsz', hcs, List.size_toArray]
              rw [if_neg (by simp [hl])]
              exact hst
            · refine ⟨(splice cur.toList (i * b.sz + o) cs).toArray, fr, h0, setRow_heap w _ cur _ b.ty fr hg, ?_, by simpa using hes, hcap, hpl, ?_, ?_⟩
              · simp only [List.size_toArray]
                rw [splice_length _ _ _ (by simpa using hend')]
                simpa using hcur
              · simp only [List.size_toArray]
                rw [splice_length _ _ _ (by simpa using hend')]
                simpa using hfr
              · intro k ek hk
                simp only [List.getElem?_set] at hk
                by_cases e : i = k
                · subst e
                  rw [if_pos rfl, if_pos hilt] at hk
                  obtain rfl := Option.some.inj hk
                  refine ⟨by rw [splice_length _ _ _ hle]; exact helen, fun j p hj => ?_⟩
                  rw [splice_get _ _ _ hle] at hj
                  simp only [List.getElem?_toArray]
                  rw [splice_get _ _ _ (by simpa using hend')]
                  by_cases hjo : j < o
                  · rw [if_pos hjo] at hj
                    rw [if_pos (by omega)]
                    obtain ⟨u, hu, hr⟩ := (hc i es he).2 j p hj
                    exact ⟨u, by simpa using hu, hr⟩
                  · rw [if_neg hjo] at hj
                    rw [if_neg (by omega)]
                    by_cases hjl : j < o + ps.length
                    · rw [if_pos hjl] at hj
                      rw [if_pos (by omega)]
                      have hlt : j - o < cs.length := by omega
                      refine ⟨cs[j - o], ?_, hvr (j - o) p cs[j - o] hj (List.getElem?_eq_getElem hlt)⟩
                      rw [show i * b.sz + j - (i * b.sz + o) = j - o by omega]
                      exact List.getElem?_eq_getElem hlt
                    · rw [if_neg hjl] at hj
                      rw [if_neg (by omega)]
                      obtain ⟨u, hu, hr⟩ := (hc i es he).2 j p hj
                      exact ⟨u, by simpa using hu, hr⟩
                · rw [if_neg e] at hk
                  refine ⟨(hc k ek hk).1, fun j p hj => ?_⟩
                  obtain ⟨u, hu, hr⟩ := (hc k ek hk).2 j p hj
                  have hjs : j < b.sz := by
                    have := (List.getElem?_eq_some_iff.1 hj).1
                    rw [(hc k ek hk).1] at this
                    exact this
                  have hout := elem_off (i := i) (k := k) (o := o) (len := cs.length) hjs (fun e' => e e'.symm) (by omega)
                  refine ⟨u, ?_, hr⟩
                  simp only [List.getElem?_toArray]
                  rw [splice_get _ _ _ (by simpa using hend')]
                  by_cases hx1 : k * b.sz + j < i * b.sz + o
                  · rw [if_pos hx1]; simpa using hu
                  · rw [if_neg hx1, if_neg (by omega)]; simpa using hu
        · exact K.elim
      · exact K.elim
    · exact K.elim
  · exact K.elim

/-- A new variable. -/
theorem newVar_ok {t : TypeId} {cs : List Value} {ps : List PV} {v : Value} (H : HR W0 w h m) (hcs : v.cells = cs.toArray) (hl : cs.length = ps.length) (h0 : 0 < ps.length)
    (hvr : ∀ (j : Nat) (p : PV) (u : Value), ps[j]? = some p → cs[j]? = some u → VR w h m p u)
    (K : ∀ id, h.lim ≤ id → N (.sv (.one (.ptr id 0 0 0))) (h.new id ⟨t, ps.length, [ps], 0, true⟩)) :
    OpOut W0 w h m N (.pointer (some ⟨w.heap.size, 0, none⟩)) { w with heap := w.heap.push (.cells v.cells t) } := by
  have hB : Below w.heap.size w { w with heap := w.heap.push (.cells v.cells t) } := (Below.refl _ w).alloc (Nat.le_refl _) (.cells v.cells t)
  have X := HR.born H (Nat.le_refl h.lim) ⟨t, ps.length, [ps], 0, true⟩ w.heap.size 1 hB (Nat.le_refl _)
    ⟨v.cells, (0, 0), h0, heap_alloc_new w _, by rw [hcs]; simp [hl], by simp, by simp [maxLen], fun _ => rfl, .inl (Nat.le_refl _), fun i es hi => by
      cases i with
      | zero =>
        simp at hi
        subst hi
        refine ⟨rfl, fun j p hj => ?_⟩
        have hlt : j < cs.length := by have := (List.getElem?_eq_some_iff.1 hj).1; omega
        exact ⟨cs[j], by rw [hcs]; simp [hlt], hvr j p _ hj (List.getElem?_eq_getElem hlt)⟩
      | succ i => simp at hi⟩
  refine ⟨_, _, _, K h.lim (Nat.le_refl _), ?_, X.1, X.2⟩
  refine .ptr _ _ _ _ _ (by simp [Hp.new]) (fun b hb => Nat.zero_le _) (fun b hb _ => ?_)
  simp [Loc.set]

def popBox (t : TypeId) (x : Slot) (h : Hp) (N : Slot → Hp → Prop) : Prop :=
  match slotCells x with
  | some ps => 0 < ps.length ∧ ∀ id, h.lim ≤ id → N (.sv (.one (.ptr id 0 0 0))) (h.new id ⟨t, ps.length, [ps], 0, true⟩)
  | none => False

theorem popBox_ok {t : TypeId} {x : Slot} {v : Value} (H : HR W0 w h m) (K : popBox t x h N) (hx : LR w h m x v) :
    ∃ u w', (Instr.box t v).run P w = .ok u w' ∧ OpOut W0 w h m N u w' := by
  unfold popBox at K
  split at K
  · rename_i ps hps
    obtain ⟨cs, hcs, hl, h1, hvr⟩ := slotCells_ok hx hps
    exact ⟨_, _, by simp [Instr.box, newVar, newRow], newVar_ok H hcs hl K.1 hvr K.2⟩
  · exact K.elim

/-- A variable that is only read from its birth on. -/
def popBoxRo (x : Slot) (h : Hp) (N : Slot → Hp → Prop) : Prop :=
  match slotCells x with
  | some ps => 0 < ps.length ∧ N (.sv (.one (.rop ps))) h
  | none => False

theorem popBoxRo_ok {t : TypeId} {x : Slot} {v : Value} (H : HR W0 w h m) (K : popBoxRo x h N) (hx : LR w h m x v) :
    ∃ u w', (Instr.box t v).run P w = .ok u w' ∧ OpOut W0 w h m N u w' := by
  unfold popBoxRo at K
  split at K
  · rename_i ps hps
    obtain ⟨cs, hcs, hl, h1, hvr⟩ := slotCells_ok hx hps
    have hB : Below w.heap.size w { w with heap := w.heap.push (.cells v.cells t) } := (Below.refl _ w).alloc (Nat.le_refl _) (.cells v.cells t)
    have hg := heap_alloc_new w (.cells v.cells t)
    refine ⟨.pointer (some ⟨w.heap.size, 0, none⟩), { w with heap := w.heap.push (.cells v.cells t) }, by simp [Instr.box, newVar, newRow], _, h, m, K.2, ?_, H.grow hB, Ext.grow hB⟩
    refine VR.rop ps w.heap.size 0 (fun j => (cs[j]?).getD undef) (by simp) (fun id b hb e => by have := (H.live id b hb).lt; omega) (fun j p hj => ?_) (fun j p hj => ?_)
    · have hlt : j < cs.length := by have := (List.getElem?_eq_some_iff.1 hj).1; omega
      have := cell_of_row (w.alloc (.cells v.cells t)) w.heap.size (0 + j) v.cells t (0, 0) hg
      refine Eq.trans this ?_
      rw [hcs, Nat.zero_add]
      simp [hlt]
    · have hlt : j < cs.length := by have := (List.getElem?_eq_some_iff.1 hj).1; omega
      rw [List.getElem?_eq_getElem hlt]
      exact (hvr j p _ hj (List.getElem?_eq_getElem hlt)).ext (Ext.grow hB)
  · exact K.elim

def popAlloc (P : Program) (t : TypeId) (h : Hp) (N : Slot → Hp → Prop) : Prop :=
  match zeroOf P t with
  | some z => popBox t (constSlot z) h N
  | none => False

theorem popAlloc_ok {t : TypeId} (H : HR W0 w h m) (K : popAlloc P t h N) :
    ∃ u w', (Instr.alloc t true (.tuple #[])).run P w = .ok u w' ∧ OpOut W0 w h m N u w' := by
  unfold popAlloc at K
  split at K
  · rename_i z hz
    obtain ⟨u, w', hr, ho⟩ := popBox_ok (P := P) H K (constSlot_ok w h m z)
    refine ⟨u, w', ?_, ho⟩
    simp only [Instr.alloc, Sem.run_bind, run_zeroValue hz, Result.andThen_ok]
    simpa [Instr.box] using hr
  · exact K.elim

end
end Go.Pw
