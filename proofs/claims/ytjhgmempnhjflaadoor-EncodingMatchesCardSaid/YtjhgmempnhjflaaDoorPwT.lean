/-
  PW, part T: a slice that a loop builds, with elements of any kind: nil at first, then of its own.
-/
import Derived.Test.YtjhgmempnhjflaaDoorPwW
namespace Go.Pw
open Go Go.RowKit

def RowIs (e : TypeId) (sz : Nat) (h0 hp : Hp) (sl : Slot) (xs : List (List PV)) : Prop :=
  (sl = .sv (.one (.val (.slice none 0 0))) ∧ xs = []) ∨
  ∃ id ver es, sl = .sv (.one (.own id ver 0 xs.length)) ∧ h0.lim ≤ id ∧ hp.blk id = some ⟨e, sz, es, ver, true⟩ ∧ es.take xs.length = xs

section
variable {P : Program} {W0 : World} {h0 hp : Hp} {sl : Slot} {xs : List (List PV)} {t e : TypeId} {sz : Nat}

theorem RowIs.nil (e : TypeId) (sz : Nat) (h0 hp : Hp) : RowIs e sz h0 hp (.sv (.one (.val (.slice none 0 0)))) [] := .inl ⟨rfl, rfl⟩

theorem RowIs.made {id : Nat} {hq : Hp} (hid : h0.lim ≤ id) : RowIs e sz h0 (hq.new id ⟨e, sz, xs, 0, true⟩) (.sv (.one (.own id 0 0 xs.length))) xs :=
  .inr ⟨id, 0, xs, rfl, hid, blk_new _ _ _, List.take_length⟩

theorem RowIs.same {hq : Hp} (O : RowIs e sz h0 hp sl xs) (s : Same hp hq) : RowIs e sz h0 hq sl xs := by
  rcases O with ⟨a, b⟩ | ⟨id, ver, es, a, b, c, d⟩
  · exact .inl ⟨a, b⟩
  · exact .inr ⟨id, ver, es, a, b, by rw [s.1]; exact c, d⟩

theorem RowIs.keeps {hq : Hp} (O : RowIs e sz h0 hp sl xs) (s : Keeps hp hq) : RowIs e sz h0 hq sl xs := by
  rcases O with ⟨a, b⟩ | ⟨id, ver, es, a, b, c, d⟩
  · exact .inl ⟨a, b⟩
  · exact .inr ⟨id, ver, es, a, b, s.1 _ _ c, d⟩

theorem row_len {N : Value → Prop} (ht : P.underlying t = some (.slice e)) (O : RowIs e sz h0 hp sl xs) (H : N (.int .i64 xs.length)) : popLen P t sl N := by
  unfold popLen
  rw [ht]
  rcases O with ⟨rfl, rfl⟩ | ⟨id, ver, es, rfl, _, _, _⟩
  · exact H
  · exact H

theorem row_cut {N : Slot → Prop} {k : Int} {j : Nat} (ht : P.underlying t = some (.slice e)) (hz : szOf P e = some sz) (O : RowIs e sz h0 hp sl xs) (hne : xs ≠ []) (hk : k = (j : Int)) (hj : j ≤ xs.length) (H : ∀ sl', RowIs e sz h0 hp sl' (xs.take j) → N sl') :
    popSlice P t sl none (some (.sv (.one (.val (.int .i64 k))))) hp N := by
  subst hk
  unfold popSlice
  rw [ht]
  rcases O with ⟨rfl, rfl⟩ | ⟨id, ver, es, rfl, h1, h2, h3⟩
  · exact absurd rfl hne
  · simp only [boundOf, h2]
    refine ⟨trivial, Int.le_refl _, by omega, by omega, hz, ?_⟩
    have e3 : ((0 : Nat) : Int).toNat = 0 := rfl
    have e4 : (xs.take j).length = j := by rw [List.length_take]; omega
    refine H _ (.inr ⟨id, ver, es, ?_, h1, h2, ?_⟩)
    · simp only [e3, e4, Int.toNat_natCast, Nat.sub_zero, Nat.add_zero]
    · rw [e4]
      have e5 : es.take j = (es.take xs.length).take j := by rw [List.take_take, Nat.min_eq_left hj]
      rw [e5, h3]

theorem row_app {N : Slot → Hp → Prop} {src : Slot} {sz' : Nat} {ys : List (List PV)} {z : Value} {by_ : Nat} (hb0 : hpOk h0) (ht : P.underlying t = some (.slice e)) (hz : szOf P e = some sz) (hby : bytesOf' P e = some by_) (hze : zeroOf P e = some z) (hzc : z.cells.size = sz) (hpos : 0 < sz)
    (O : RowIs e sz h0 hp sl xs) (K : Keeps h0 hp) (hs : srcOf hp src = some (sz', ys)) (hss : ys = [] ∨ sz' = sz) (hl : appendLim (xs.length + ys.length) by_)
    (H : ∀ sl' hp', RowIs e sz h0 hp' sl' (xs ++ ys) → Keeps h0 hp' → N sl' hp') : popAppend P t sl src hp N := by
  unfold popAppend
  rw [ht]
  simp only [hz, hby, hze, hs]
  refine ⟨hpos, hzc, hss, ?_⟩
  rcases O with ⟨rfl, rfl⟩ | ⟨id, ver, es, rfl, h1, h2, h3⟩
  · refine ⟨by simpa using hl, fun h => by subst h; exact H _ _ (by simpa using RowIs.nil e sz h0 hp) K, fun _ id hid => H _ _ (.inr ⟨id, 0, ys, rfl, Nat.le_trans K.2 hid, blk_new _ _ _, by simp⟩) ?_⟩
    exact ⟨fun j b hj => by
      have hj' := hb0 j b hj
      simp only [Hp.new]
      rw [if_neg (by have := K.2; omega)]
      exact K.1 j b hj, by simp only [Hp.new]; have := K.2; omega⟩
  · simp only [h2]
    refine ⟨trivial, trivial, trivial, trivial, hl, H _ _ (.inr ⟨id, ver + 1, es.take xs.length ++ ys, by simp, h1, blk_set _ _ _, ?_⟩) (K.set hb0 h1)⟩
    rw [h3, List.take_of_length_le (by simp)]

/-- A row that is not empty lies in a block. -/
theorem RowIs.open (O : RowIs e sz h0 hp sl xs) (hne : 0 < xs.length) : ∃ id ver es, sl = .sv (.one (.own id ver 0 xs.length)) ∧ h0.lim ≤ id ∧ hp.blk id = some ⟨e, sz, es, ver, true⟩ ∧ es.take xs.length = xs ∧ ∀ i, i < xs.length → es[i]? = xs[i]? := by
  rcases O with ⟨_, rfl⟩ | ⟨id, ver, es, h1, h2, h3, h4⟩
  · simp at hne
  · refine ⟨id, ver, es, h1, h2, h3, h4, fun i hi => ?_⟩
    have : (es.take xs.length)[i]? = xs[i]? := by rw [h4]
    rw [List.getElem?_take, if_pos hi] at this
    exact this

/-- A pointer to an element: what is read and written through it. -/
structure ElAt (e : TypeId) (sz : Nat) (h0 hp : Hp) (sl : Slot) (xs : List (List PV)) (i : Nat) (id ver : Nat) (es : List (List PV)) : Prop where
  sl : sl = .sv (.one (.own id ver 0 xs.length))
  lim : h0.lim ≤ id
  blk : hp.blk id = some ⟨e, sz, es, ver, true⟩
  tk : es.take xs.length = xs
  lt : i < xs.length

theorem row_at {N : Slot → Prop} {ix : Int} {i : Nat} (ht : P.underlying t = some (.slice e)) (hz : szOf P e = some sz) (O : RowIs e sz h0 hp sl xs) (hix : ix = (i : Int)) (hi : i < xs.length)
    (H : ∀ id ver es, ElAt e sz h0 hp sl xs i id ver es → N (.sv (.one (.ptr id ver i 0)))) : popIndexAddr P t sl (.sv (.one (.val (.int .i64 ix)))) hp N := by
  subst hix
  obtain ⟨id, ver, es, rfl, h1, h2, h3, h4⟩ := O.open (by omega)
  unfold popIndexAddr
  simp only [ht, h2, hz]
  refine ⟨trivial, Int.natCast_nonneg _, by omega, trivial, ?_⟩
  rw [Int.toNat_natCast, Nat.zero_add]
  exact H id ver es ⟨rfl, h1, h2, h3, hi⟩

theorem ElAt.get {i id ver : Nat} {es : List (List PV)} (E : ElAt e sz h0 hp sl xs i id ver es) : es[i]? = xs[i]? := by
  have : (es.take xs.length)[i]? = xs[i]? := by rw [E.tk]
  rw [List.getElem?_take, if_pos E.lt] at this
  exact this

theorem el_load {N : Slot → Hp → Prop} {i id ver o : Nat} {es : List (List PV)} {c : List PV} {u : TypeId} (E : ElAt e sz h0 hp sl xs i id ver es) (hc : xs[i]? = some c) (H : loadK P u (c.drop o) (fun s => N s hp)) : popLoad P W0 u (.sv (.one (.ptr id ver i o))) hp N := by
  unfold popLoad
  have hg := E.get
  rw [hc] at hg
  simp only [E.blk, hg]
  exact ⟨trivial, H⟩

theorem el_store {N : Slot → Hp → Prop} {i id ver o : Nat} {es : List (List PV)} {c ps : List PV} {u : TypeId} {y : Slot} (E : ElAt e sz h0 hp sl xs i id ver es) (hb0 : hpOk h0) (K : Keeps h0 hp) (hc : xs[i]? = some c) (hy : slotCells y = some ps) (hu : szOf P u = some ps.length) (ho : o + ps.length ≤ c.length)
    (H : ∀ hp', RowIs e sz h0 hp' sl (xs.set i (splice c o ps)) → Keeps h0 hp' → N (.tup []) hp') : popStore P u (.sv (.one (.ptr id ver i o))) y hp N := by
  unfold popStore
  have hg := E.get
  rw [hc] at hg
  simp only [E.blk, hg, hy]
  refine ⟨trivial, hu, ho, H _ (.inr ⟨id, ver, es.set i (splice c o ps), by rw [List.length_set]; exact E.sl, E.lim, blk_set _ _ _, ?_⟩) (K.set hb0 E.lim)⟩
  rw [List.length_set, List.take_set, E.tk]

theorem row_freeze {E : Nat → Slot} {s : Nat} (O : RowIs e sz h0 hp (E s) xs) (hb0 : hpOk h0) (K : Keeps h0 hp) : ∃ hp', Wk W0 ⟨E, hp⟩ ⟨upd E s (.sv (.one (.ro false sz xs))), hp'⟩ ∧ Keeps h0 hp' := by
  rcases O with ⟨h1, rfl⟩ | ⟨id, ver, es, h1, h2, h3, h4⟩
  · refine ⟨hp, ⟨Less.refl _, fun w m R i v hl => ?_⟩, K⟩
    simp only [upd]
    split
    · rename_i hi
      subst hi
      have hl' : LR w hp m (E i) v := hl
      rw [h1] at hl'
      cases hl' with
      | val _ _ => exact .ro0 _ _ _ _ (fun h => by cases h)
    · exact hl
  · have k := wk_freeze (W0 := W0) h3 rfl h1
    simp only [h4] at k
    exact ⟨_, k, fun j b hj => by
      have := hb0 j b hj
      simp only [Hp.drop]
      rw [if_neg (by omega)]
      exact K.1 j b hj, K.2⟩

/-- The slice in a slot is told as one that is only read from here on. -/
theorem pwp_freezeRow {n : Nat} {c : Code} {Kx : Exit → St → Prop} {E : Nat → Slot} (s : Nat) (hE : E s = sl) (O : RowIs e sz h0 hp sl xs) (hb0 : hpOk h0) (K : Keeps h0 hp)
    (H : ∀ hp', Keeps h0 hp' → PWP P W0 n c Kx ⟨upd E s (.sv (.one (.ro false sz xs))), hp'⟩) : PWP P W0 n c Kx ⟨E, hp⟩ := by
  obtain ⟨hp', k, hk⟩ := row_freeze (W0 := W0) (E := E) (s := s) (by rw [hE]; exact O) hb0 K
  exact (H hp' hk).wk k

theorem wk_pops {n : Nat} {ops : Array Oper} {N : St → Prop} {rest : List Oper} {σ σ' : St} (H : PWP P W0 n (.region 0 rest.toArray false) (thenK N fun _ _ => False) σ') (k : Wk W0 σ σ') : PWP P W0 n (.region 0 rest.toArray false) (thenK N fun _ _ => False) σ := H.wk k

/-- Values keep what they say when blocks are forgotten: the row, told as one that is only read. -/
theorem row_slot (O : RowIs e sz h0 hp sl xs) (hb0 : hpOk h0) (K : Keeps h0 hp) : ∃ h', Less hp h' ∧ Keeps h0 h' ∧ ∀ w m, HR W0 w hp m → ∀ v, LR w hp m sl v → LR w h' m (.sv (.one (.ro false sz xs))) v := by
  rcases O with ⟨rfl, rfl⟩ | ⟨id, ver, es, rfl, h2, h3, h4⟩
  · exact ⟨hp, Less.refl _, K, fun w m _ v x => by
      cases x with
      | val _ _ => exact .ro0 _ _ _ _ (fun h => by cases h)⟩
  · refine ⟨hp.drop id, Less.drop hp id, ⟨fun j b hj => by
      have := hb0 j b hj
      simp only [Hp.drop]
      rw [if_neg (by omega)]
      exact K.1 j b hj, K.2⟩, fun w m R v x => ?_⟩
    have := vr_freeze R h3 rfl x
    rw [h4] at this
    exact this

theorem Less.back {h h1 : Hp} (K : Keeps h h1) : Less h1 (h.back h1) := ⟨fun id b hb => K.1 id b hb, Nat.le_refl _⟩

/-- A function's end: the row that was built is the result. -/
theorem endRow (O : RowIs e sz h0 hp sl xs) (hb0 : hpOk h0) (K : Keeps h0 hp) : ∃ r' h', SlotWk W0 hp sl h' r' ∧ (r' = .sv (.one (.ro false sz xs)) ∧ Same h0 h') := by
  obtain ⟨h', l, k, hv⟩ := row_slot (W0 := W0) O hb0 K
  exact ⟨_, h0.back h', ⟨l.trans (Less.back k), fun w m R v x => (hv w m R v x).ext (Less.back k).ext⟩, rfl, rfl, k.2⟩

theorem endRow2 {b : SV} {s : SV} {sv : Slot} (hsv : sv = .tup [s, b]) (hsl : sl = .sv s) (hbx : ∀ w h m h' v, Ext w h m w h' m → SVR w h m b v → SVR w h' m b v) (O : RowIs e sz h0 hp sl xs) (hb0 : hpOk h0) (K : Keeps h0 hp) :
    ∃ r' h', SlotWk W0 hp sv h' r' ∧ (r' = .tup [.one (.ro false sz xs), b] ∧ Same h0 h') := by
  subst hsv
  subst hsl
  obtain ⟨h', l, k, hv⟩ := row_slot (W0 := W0) O hb0 K
  refine ⟨_, h0.back h', ⟨l.trans (Less.back k), fun w m R v x => ?_⟩, rfl, rfl, k.2⟩
  obtain ⟨vs, e1, hl, hvs⟩ := x
  refine ⟨vs, e1, hl, fun j s' u h1 h2 => ?_⟩
  match j, h1, h2 with
  | 0, h1, h2 =>
    obtain rfl := Option.some.inj h1
    exact ((hv w m R u (hvs 0 _ u rfl h2)).ext (Less.back k).ext : LR w (h0.back h') m (.sv (.one (.ro false sz xs))) u)
  | 1, h1, h2 => exact (hvs 1 s' u h1 h2).ext (l.trans (Less.back k)).ext

/-- Bytes that were gathered, as a text. -/
theorem row_str {N : Slot → Hp → Prop} {ts t8 : TypeId} {l : List UInt8} (hs : P.underlying ts = some .string) (ht : P.underlying t = some (.slice t8)) (h8 : P.underlying t8 = some (.int .u8)) (O : RowIs t8 1 h0 hp sl (l.map byteCell))
    (H : N (.sv (.one (pstr l))) hp) : popConvert P t ts sl hp N := by
  unfold popConvert
  rcases O with ⟨rfl, hx⟩ | ⟨id, ver, es, rfl, h2, h3, h4⟩
  · obtain rfl : l = [] := by simpa using hx
    simp only [hs, ht]
    exact ⟨h8, [], ⟨0, rfl⟩, H⟩
  · simp only [hs, ht]
    refine ⟨h8, l, ⟨1, ?_⟩, H⟩
    unfold srcOf
    simp only [h3, List.drop_zero, h4, if_true]

theorem row_src (O : RowIs e sz h0 hp sl xs) : ∃ sz', srcOf hp sl = some (sz', xs) ∧ (xs = [] ∨ sz' = sz) := by
  rcases O with ⟨rfl, rfl⟩ | ⟨id, ver, es, rfl, h2, h3, h4⟩
  · exact ⟨0, rfl, .inl rfl⟩
  · refine ⟨sz, ?_, .inr rfl⟩
    unfold srcOf
    simp only [h3, List.drop_zero, h4, if_true]

theorem hpOk.same {a b : Hp} (H : hpOk a) (s : Same a b) : hpOk b := fun id bl hb => Nat.lt_of_lt_of_le (H id bl (by rw [← s.1]; exact hb)) s.2

/-- Wherever code is walked, no block lies above the bound. -/
theorem pwp_hpok {n : Nat} {c : Code} {K : Exit → St → Prop} {σ : St} (H : hpOk σ.hp → PWP P W0 n c K σ) : PWP P W0 n c K σ :=
  fun we he me a w m R => H R.hr.bound we he me a w m R

/-- A variable that is written once, at its birth: from then on it is only read. -/
theorem pops_var {n : Nat} {ops : Array Oper} {N : St → Prop} {rest : List Oper} {e0 : Nat → Slot} {h : Hp} {d : Nat} {u ty1 ty2 : TypeId} {pos1 pos2 : String} {af1 af2 : Array Edge} {y : Operand} {z : Value} {zs ps : List PV}
    (hok : hpOk h) (hd : decide (d < n) = true) (hz : zeroOf P u = some z) (hzc : slotCells (constSlot z) = some zs) (hyd : y ≠ .tmp d) (hy : slotCells ((⟨e0, h⟩ : St).eval y) = some ps) (hzl : zs.length = ps.length) (hpos : 0 < ps.length) (hsz : szOf P u = some ps.length)
    (H : ∀ h', Same h h' → pops P W0 n ops N rest ⟨upd e0 d (.sv (.one (.rop ps))), h'⟩) :
    pops P W0 n ops N (⟨some d, .alloc u, ty1, pos1, af1, none⟩ :: ⟨none, .store u (.tmp d) y, ty2, pos2, af2, none⟩ :: rest) ⟨e0, h⟩ := by
  refine pops_to hd fun M hM => ?_
  show popAlloc P u h M
  unfold popAlloc
  rw [hz]
  show popBox u (constSlot z) h M
  unfold popBox
  rw [hzc]
  refine ⟨by omega, fun id hid => hM _ _ ?_⟩
  refine pops_no fun M2 hM2 => ?_
  have ey : (⟨upd e0 d (.sv (.one (.ptr id 0 0 0))), h.new id ⟨u, zs.length, [zs], 0, true⟩⟩ : St).eval y = (⟨e0, h⟩ : St).eval y := by
    cases y with
    | tmp t => simp only [St.eval, upd]; rw [if_neg (fun e => hyd (by rw [e]))]
    | _ => rfl
  have ed : (⟨upd e0 d (.sv (.one (.ptr id 0 0 0))), h.new id ⟨u, zs.length, [zs], 0, true⟩⟩ : St).eval (.tmp d) = .sv (.one (.ptr id 0 0 0)) := by simp [St.eval, upd]
  show popStore P u ((⟨upd e0 d (.sv (.one (.ptr id 0 0 0))), h.new id ⟨u, zs.length, [zs], 0, true⟩⟩ : St).eval (.tmp d)) ((⟨upd e0 d (.sv (.one (.ptr id 0 0 0))), h.new id ⟨u, zs.length, [zs], 0, true⟩⟩ : St).eval y) (h.new id ⟨u, zs.length, [zs], 0, true⟩) M2
  rw [ey, ed]
  unfold popStore
  simp only [blk_new, hy, List.getElem?_cons_zero]
  refine ⟨trivial, hsz, by omega, hM2 _ _ ?_⟩
  have es : splice zs 0 ps = ps := by
    unfold splice
    rw [List.take_zero, List.nil_append, Nat.zero_add, List.drop_eq_nil_of_le (by omega), List.append_nil]
  refine pops_wk (H ⟨h.blk, id + 1⟩ ⟨rfl, by simp only; omega⟩) ⟨⟨fun j b hb => ?_, Nat.le_refl _⟩, fun w m R i v hl => ?_⟩
  · have := hok j b hb
    simp only [Hp.set, Hp.new]
    rw [if_neg (by omega), if_neg (by omega)]
    exact hb
  · have X : Ext w ((h.new id ⟨u, zs.length, [zs], 0, true⟩).set id ⟨u, zs.length, [splice zs 0 ps], 0, true⟩) m w ⟨h.blk, id + 1⟩ m := by
      refine Less.ext ⟨fun j b hb => ?_, Nat.le_refl _⟩
      have := hok j b hb
      simp only [Hp.set, Hp.new]
      rw [if_neg (by omega), if_neg (by omega)]
      exact hb
    have R' : HR W0 w ((h.new id ⟨u, zs.length, [zs], 0, true⟩).set id ⟨u, zs.length, [splice zs 0 ps], 0, true⟩) m := R
    have hl' : LR w ((h.new id ⟨u, zs.length, [zs], 0, true⟩).set id ⟨u, zs.length, [splice zs 0 ps], 0, true⟩) m (upd e0 d (.sv (.one (.ptr id 0 0 0))) i) v := hl
    simp only [upd] at hl' ⊢
    split
    · rename_i hi
      rw [if_pos hi] at hl'
      have hb : ((h.new id ⟨u, zs.length, [zs], 0, true⟩).set id ⟨u, zs.length, [splice zs 0 ps], 0, true⟩).blk id = some ⟨u, zs.length, [splice zs 0 ps], 0, true⟩ := blk_set _ _ _
      cases hl' with
      | ptr _ _ _ _ ad hid2 hver hbl =>
        obtain rfl := hbl _ hb rfl
        obtain ⟨h0, cur, fr, hg, hsz2, hle, hcap, hpl, hfr, hc⟩ := R'.live id _ hb
        obtain ⟨hlen, hcell⟩ := hc 0 ps (by rw [es]; rfl)
        rw [Nat.zero_mul, Nat.zero_add]
        refine .rop ps (m id).1 0 (fun j => (cur[j]?).getD undef) (R'.live id _ hb).lt (fun j b hj e => ?_) (fun j p hj => ?_) (fun j p hj => ?_)
        · have hj0 : h.blk j = some b := hj
          have hlt := hok j b hj0
          have hj1 : ((h.new id ⟨u, zs.length, [zs], 0, true⟩).set id ⟨u, zs.length, [splice zs 0 ps], 0, true⟩).blk j = some b := by
            simp only [Hp.set, Hp.new]
            rw [if_neg (by omega), if_neg (by omega)]
            exact hj0
          have := R'.inj j id b _ hj1 hb e
          omega
        · obtain ⟨q, hq, _⟩ := hcell j p hj
          rw [cell_of_row w _ _ cur u fr hg]
          simp only [Nat.zero_mul, Nat.zero_add] at hq ⊢
          rw [hq]; rfl
        · obtain ⟨q, hq, hr⟩ := hcell j p hj
          simp only [Nat.zero_mul, Nat.zero_add] at hq
          rw [hq]
          exact hr.ext X
    · rename_i hi
      rw [if_neg hi] at hl'
      exact hl'.ext X

end
end Go.Pw
