/- Own work: part of the proof of the row YtlghclplgbijjaaDoorRowFilterChecksUpto; no condition of its own. -/
import Derived.Test.YtlghclplgbijjaaDoorPwM
import Derived.Lib.OthersKept
namespace Go.Pw
open Go Go.RowKit
section
variable {P : Program} {W0 : World} {n : Nat} {K : Exit → St → Prop} {σ : St} {ops : Array Oper}
end
end Go.Pw
namespace Go.Pw
open Go Go.RowKit
section
variable {P : Program} {W0 : World} {h : Hp} {N : Slot → Hp → Prop} {id i : Nat} {t t8 ts : TypeId} {l : List UInt8} {c : UInt8}
end
end Go.Pw
namespace Go.Pw
open Go Go.RowKit
def Hp.drop (h : Hp) (id : Nat) : Hp := ⟨fun j => if j = id then none else h.blk j, h.lim⟩
theorem Less.drop (h : Hp) (id : Nat) : Less h (h.drop id) := ⟨fun j b hb => by
  simp only [Hp.drop] at hb
  split at hb
  · cases hb
  · exact hb, Nat.le_refl _⟩
theorem vr_freeze {W0 w : World} {h : Hp} {m : Loc} {id ver len : Nat} {b : Blk} {v : Value} (R : HR W0 w h m) (hb : h.blk id = some b) (hv : b.ver = ver) (H : VR w h m (.own id ver 0 len) v) : VR w (h.drop id) m (.ro false b.sz (b.es.take len)) v := by
  have x := (Less.drop h id).ext (w := w) (m := m)
  cases H with
  | own _ _ _ _ ad c hid hver hbl =>
    obtain ⟨h1, h2, h3⟩ := hbl b hb hv
    obtain ⟨rfl, rfl⟩ := h3 (.inr rfl)
    obtain ⟨h0, cur, fr, hg, hsz, hle, hcap, hpl, hfr, hc⟩ := R.live id b hb
    rw [Nat.zero_mul]
    have hlen : (b.es.take len).length = len := by rw [List.length_take]; omega
    refine .ro false b.sz (b.es.take len) (m id).1 0 _ len (fun i j => (cur[i * b.sz + j]?).getD undef) hlen (fun h => by cases h) (by omega) (R.live id b hb).lt ?_ ?_ ?_ ?_
    · intro j c hj e
      simp only [Hp.drop] at hj
      split at hj
      · cases hj
      · rename_i hne
        exact hne (R.inj j id c b hj hb e)
    · intro i es hi
      rw [List.getElem?_take] at hi
      split at hi
      · exact (hc i es hi).1
      · cases hi
    · intro i es j p hi hj
      rw [List.getElem?_take] at hi
      split at hi
      · obtain ⟨u, hu, _⟩ := (hc i es hi).2 j p hj
        rw [cell_of_row w _ _ cur b.ty fr hg, Nat.zero_add, hu]
        rfl
      · cases hi
    · intro i es j p hi hj
      rw [List.getElem?_take] at hi
      split at hi
      · obtain ⟨u, hu, hr⟩ := (hc i es hi).2 j p hj
        rw [hu]
        exact hr.ext x
      · cases hi
theorem wk_freeze {W0 : World} {e : Nat → Slot} {h : Hp} {t id ver len : Nat} {b : Blk} (hb : h.blk id = some b) (hv : b.ver = ver) (ht : e t = .sv (.one (.own id ver 0 len))) :
    Wk W0 ⟨e, h⟩ ⟨upd e t (.sv (.one (.ro false b.sz (b.es.take len)))), h.drop id⟩ :=
  ⟨Less.drop h id, fun w m R i v hl => by
    simp only [upd]
    split
    · rename_i hi
      subst hi
      have hl' : LR w h m (e i) v := hl
      rw [ht] at hl'
      exact vr_freeze R hb hv hl'
    · exact hl.ext (Less.drop h id).ext⟩
def OutIs (ty : TypeId) (h0 hp : Hp) (sl : Slot) (out : List (List UInt8)) : Prop :=
  (sl = .sv (.one (.val (.slice none 0 0))) ∧ out = []) ∨
  ∃ id ver es, sl = .sv (.one (.own id ver 0 out.length)) ∧ h0.lim ≤ id ∧ hp.blk id = some ⟨ty, 1, es, ver, true⟩ ∧ es.take out.length = pstrs out
section
variable {P : Program} {W0 : World} {h0 hp : Hp} {sl : Slot} {out : List (List UInt8)} {t e : TypeId}
theorem OutIs.same {hq : Hp} (O : OutIs e h0 hp sl out) (s : Same hp hq) : OutIs e h0 hq sl out := by
  rcases O with ⟨a, b⟩ | ⟨id, ver, es, a, b, c, d⟩
  · exact .inl ⟨a, b⟩
  · exact .inr ⟨id, ver, es, a, b, by rw [s.1]; exact c, d⟩
end
end Go.Pw
namespace Go.Pw
open Go Go.RowKit
def RowIs (e : TypeId) (sz : Nat) (h0 hp : Hp) (sl : Slot) (xs : List (List PV)) : Prop :=
  (sl = .sv (.one (.val (.slice none 0 0))) ∧ xs = []) ∨
  ∃ id ver es, sl = .sv (.one (.own id ver 0 xs.length)) ∧ h0.lim ≤ id ∧ hp.blk id = some ⟨e, sz, es, ver, true⟩ ∧ es.take xs.length = xs
section
variable {P : Program} {W0 : World} {h0 hp : Hp} {sl : Slot} {xs : List (List PV)} {t e : TypeId} {sz : Nat}
theorem RowIs.nil (e : TypeId) (sz : Nat) (h0 hp : Hp) : RowIs e sz h0 hp (.sv (.one (.val (.slice none 0 0)))) [] := .inl ⟨rfl, rfl⟩
theorem RowIs.same {hq : Hp} (O : RowIs e sz h0 hp sl xs) (s : Same hp hq) : RowIs e sz h0 hq sl xs := by
  rcases O with ⟨a, b⟩ | ⟨id, ver, es, a, b, c, d⟩
  · exact .inl ⟨a, b⟩
  · exact .inr ⟨id, ver, es, a, b, by rw [s.1]; exact c, d⟩
theorem RowIs.keeps {hq : Hp} (O : RowIs e sz h0 hp sl xs) (s : Keeps hp hq) : RowIs e sz h0 hq sl xs := by
  rcases O with ⟨a, b⟩ | ⟨id, ver, es, a, b, c, d⟩
  · exact .inl ⟨a, b⟩
  · exact .inr ⟨id, ver, es, a, b, s.1 _ _ c, d⟩
theorem row_app {N : Slot → Hp → Prop} {src : Slot} {sz' : Nat} {ys : List (List PV)} {z : Value} {by_ : Nat} (hb0 : hpOk h0) (ht : P.underlying t = some (.slice e)) (hz : szOf P e = some sz) (hby : bytesOf' P e = some by_) (hze : zeroOf P e = some z) (hzc : z.cells.size = sz) (hpos : 0 < sz)
    (O : RowIs e sz h0 hp sl xs) (K : Keeps h0 hp) (hs : srcOf hp src = some (sz', ys)) (hss : ys = [] ∨ sz' = sz) (hl : appendLim (xs.length + ys.length) by_)
    (H : ∀ sl' hp', RowIs e sz h0 hp' sl' (xs ++ ys) → Keeps h0 hp' → N sl' hp') : popAppend P t sl src hp N := by
  unfold popAppend
  rw [ht]
  simp only [hz, hby, hze, hs]
  refine ⟨hpos, hzc, hss, ?_⟩
  rcases O with ⟨rfl, rfl⟩ | ⟨id, ver, es, rfl, h1, h2, h3⟩
  · refine ⟨by simpa using hl, fun h => by subst h; exact H _ _ (by simpa using RowIs.nil e sz h0 hp) K, fun _ id hid => H _ _ (.inr ⟨id, 0, ys, rfl, Nat.le_trans K.2 hid, blk_new _ _ _, by simp⟩) ?_⟩
    exact ⟨fun j b hj => by
      have hj' := hb0 j b hj
      simp only [Hp.new]
      rw [if_neg (by have := K.2; omega)]
      exact K.1 j b hj, by simp only [Hp.new]; have := K.2; omega⟩
  · simp only [h2]
    refine ⟨trivial, trivial, trivial, trivial, hl, H _ _ (.inr ⟨id, ver + 1, es.take xs.length ++ ys, by simp, h1, blk_set _ _ _, ?_⟩) (K.set hb0 h1)⟩
    rw [h3, List.take_of_length_le (by simp)]
theorem row_appS {N : Slot → Hp → Prop} {l q : List UInt8} {z : Value} {by_ : Nat} (hb0 : hpOk h0) (ht : P.underlying t = some (.slice e)) (hz : szOf P e = some 1) (hby : bytesOf' P e = some by_) (hze : zeroOf P e = some z) (hzc : z.cells.size = 1)
    (O : RowIs e 1 h0 hp sl (l.map byteCell)) (K : Keeps h0 hp) (hl : appendLim (l.length + q.length) by_)
    (H : ∀ sl' hp', RowIs e 1 h0 hp' sl' ((l ++ q).map byteCell) → Keeps h0 hp' → N sl' hp') : popAppendStr P t sl (.sv (.one (pstr q))) hp N := by
  unfold popAppendStr
  have hq : (⟨q.toArray⟩ : ByteArray).size = q.length := str_size q
  have hd : (⟨q.toArray⟩ : ByteArray).data.toList = q := str_data q
  simp only [ht, hz, hby, hze, hq]
  refine ⟨trivial, hzc, ?_⟩
  rcases O with ⟨rfl, hx⟩ | ⟨id, ver, es, rfl, h1, h2, h3⟩
  · obtain rfl : l = [] := by simpa using hx
    refine ⟨by simpa using hl, fun h => ?_, fun _ id hid => H _ _ (.inr ⟨id, 0, q.map byteCell, by simp, Nat.le_trans K.2 hid, blk_new _ _ _, List.take_of_length_le (by simp)⟩) ?_⟩
    · obtain rfl := List.eq_nil_of_length_eq_zero h
      exact H _ _ (by simpa using RowIs.nil e 1 h0 hp) K
    · exact ⟨fun j b hj => by
        have hj' := hb0 j b hj
        simp only [Hp.new]
        rw [if_neg (by have := K.2; omega)]
        exact K.1 j b hj, by simp only [Hp.new]; have := K.2; omega⟩
  · simp only [h2]
    rw [List.length_map] at h3 ⊢
    refine ⟨trivial, trivial, trivial, trivial, hl, H _ _ (.inr ⟨id, ver + 1, es.take l.length ++ q.map byteCell, by simp, h1, blk_set _ _ _, ?_⟩) (K.set hb0 h1)⟩
    rw [h3, List.take_of_length_le (by simp), List.map_append]
theorem RowIs.open (O : RowIs e sz h0 hp sl xs) (hne : 0 < xs.length) : ∃ id ver es, sl = .sv (.one (.own id ver 0 xs.length)) ∧ h0.lim ≤ id ∧ hp.blk id = some ⟨e, sz, es, ver, true⟩ ∧ es.take xs.length = xs ∧ ∀ i, i < xs.length → es[i]? = xs[i]? := by
  rcases O with ⟨_, rfl⟩ | ⟨id, ver, es, h1, h2, h3, h4⟩
  · simp at hne
  · refine ⟨id, ver, es, h1, h2, h3, h4, fun i hi => ?_⟩
    have : (es.take xs.length)[i]? = xs[i]? := by rw [h4]
    rw [List.getElem?_take, if_pos hi] at this
    exact this
structure ElAt (e : TypeId) (sz : Nat) (h0 hp : Hp) (sl : Slot) (xs : List (List PV)) (i : Nat) (id ver : Nat) (es : List (List PV)) : Prop where
  sl : sl = .sv (.one (.own id ver 0 xs.length))
  lim : h0.lim ≤ id
  blk : hp.blk id = some ⟨e, sz, es, ver, true⟩
  tk : es.take xs.length = xs
  lt : i < xs.length
theorem ElAt.get {i id ver : Nat} {es : List (List PV)} (E : ElAt e sz h0 hp sl xs i id ver es) : es[i]? = xs[i]? := by
  have : (es.take xs.length)[i]? = xs[i]? := by rw [E.tk]
  rw [List.getElem?_take, if_pos E.lt] at this
  exact this
theorem row_freeze {E : Nat → Slot} {s : Nat} (O : RowIs e sz h0 hp (E s) xs) (hb0 : hpOk h0) (K : Keeps h0 hp) : ∃ hp', Wk W0 ⟨E, hp⟩ ⟨upd E s (.sv (.one (.ro false sz xs))), hp'⟩ ∧ Keeps h0 hp' := by
  rcases O with ⟨h1, rfl⟩ | ⟨id, ver, es, h1, h2, h3, h4⟩
  · refine ⟨hp, ⟨Less.refl _, fun w m R i v hl => ?_⟩, K⟩
    simp only [upd]
    split
    · rename_i hi
      subst hi
      have hl' : LR w hp m (E i) v := hl
      rw [h1] at hl'
      cases hl' with
      | val _ _ => exact .ro0 _ _ _ _ (fun h => by cases h)
    · exact hl
  · have k := wk_freeze (W0 := W0) h3 rfl h1
    simp only [h4] at k
    exact ⟨_, k, fun j b hj => by
      have := hb0 j b hj
      simp only [Hp.drop]
      rw [if_neg (by omega)]
      exact K.1 j b hj, K.2⟩
theorem pwp_freezeRow {n : Nat} {c : Code} {Kx : Exit → St → Prop} {E : Nat → Slot} (s : Nat) (hE : E s = sl) (O : RowIs e sz h0 hp sl xs) (hb0 : hpOk h0) (K : Keeps h0 hp)
    (H : ∀ hp', Keeps h0 hp' → PWP P W0 n c Kx ⟨upd E s (.sv (.one (.ro false sz xs))), hp'⟩) : PWP P W0 n c Kx ⟨E, hp⟩ := by
  obtain ⟨hp', k, hk⟩ := row_freeze (W0 := W0) (E := E) (s := s) (by rw [hE]; exact O) hb0 K
  exact (H hp' hk).wk k
theorem Less.back {h h1 : Hp} (K : Keeps h h1) : Less h1 (h.back h1) := ⟨fun id b hb => K.1 id b hb, Nat.le_refl _⟩
theorem hpOk.same {a b : Hp} (H : hpOk a) (s : Same a b) : hpOk b := fun id bl hb => Nat.lt_of_lt_of_le (H id bl (by rw [← s.1]; exact hb)) s.2
theorem pwp_hpok {n : Nat} {c : Code} {K : Exit → St → Prop} {σ : St} (H : hpOk σ.hp → PWP P W0 n c K σ) : PWP P W0 n c K σ :=
  fun we he me a w m R => H R.hr.bound we he me a w m R
theorem fresh_rop {w : World} {m : Loc} {h : Hp} {id : Nat} {u : TypeId} {ps : List PV} {v : Value} {k : Nat} (hk : k = ps.length) (hok : hpOk h) (hid : h.lim ≤ id) (R : HR W0 w ((h.new id ⟨u, k, [ps], 0, true⟩)) m)
    (hl : VR w (h.new id ⟨u, k, [ps], 0, true⟩) m (.ptr id 0 0 0) v) : VR w ⟨h.blk, id + 1⟩ m (.rop ps) v := by
  subst hk
  have X : Ext w (h.new id ⟨u, ps.length, [ps], 0, true⟩) m w ⟨h.blk, id + 1⟩ m := by
    refine Less.ext ⟨fun j b hb => ?_, Nat.le_refl _⟩
    have := hok j b hb
    simp only [Hp.new]
    rw [if_neg (by omega)]
    exact hb
  have hb := blk_new h id ⟨u, ps.length, [ps], 0, true⟩
  cases hl with
  | ptr _ _ _ _ ad hid2 hver hbl =>
    obtain rfl := hbl _ hb rfl
    obtain ⟨h0, cur, fr, hg, hsz2, hle, hcap, hpl, hfr, hc⟩ := R.live id _ hb
    obtain ⟨hlen, hcell⟩ := hc 0 ps rfl
    rw [Nat.zero_mul, Nat.zero_add]
    refine .rop ps (m id).1 0 (fun j => (cur[j]?).getD undef) (R.live id _ hb).lt (fun j b hj e => ?_) (fun j p hj => ?_) (fun j p hj => ?_)
    · have hj0 : h.blk j = some b := hj
      have hlt := hok j b hj0
      have hj1 : (h.new id ⟨u, ps.length, [ps], 0, true⟩).blk j = some b := by
        simp only [Hp.new]
        rw [if_neg (by omega)]
        exact hj0
      have := R.inj j id b _ hj1 hb e
      omega
    · obtain ⟨q, hq, _⟩ := hcell j p hj
      rw [cell_of_row w _ _ cur u fr hg]
      simp only [Nat.zero_mul, Nat.zero_add] at hq ⊢
      rw [hq]; rfl
    · obtain ⟨q, hq, hr⟩ := hcell j p hj
      simp only [Nat.zero_mul, Nat.zero_add] at hq
      rw [hq]
      exact hr.ext X
theorem less_new {h : Hp} {id : Nat} {b : Blk} (hok : hpOk h) (hid : h.lim ≤ id) : Less (h.new id b) ⟨h.blk, id + 1⟩ :=
  ⟨fun j b hb => by
    have := hok j b hb
    simp only [Hp.new]
    rw [if_neg (by omega)]
    exact hb, Nat.le_refl _⟩
theorem pops_valloc {n : Nat} {ops : Array Oper} {N : St → Prop} {rest : List Oper} {e0 : Nat → Slot} {h : Hp} {d : Nat} {u ty1 : TypeId} {pos1 : String} {af1 : Array Edge} {z : Value} {zs : List PV}
    (hd : decide (d < n) = true) (hz : zeroOf P u = some z) (hzc : slotCells (constSlot z) = some zs) (hpos : 0 < zs.length)
    (H : ∀ id, h.lim ≤ id → pops P W0 n ops N rest ⟨upd e0 d (.sv (.one (.ptr id 0 0 0))), h.new id ⟨u, zs.length, [zs], 0, true⟩⟩) :
    pops P W0 n ops N (⟨some d, .alloc u, ty1, pos1, af1, none⟩ :: rest) ⟨e0, h⟩ := by
  refine pops_to hd fun M hM => ?_
  show popAlloc P u h M
  unfold popAlloc
  rw [hz]
  show popBox u (constSlot z) h M
  unfold popBox
  rw [hzc]
  exact ⟨hpos, fun id hid => hM _ _ (H id hid)⟩
theorem pops_vstore {n : Nat} {ops : Array Oper} {N : St → Prop} {rest : List Oper} {e0 : Nat → Slot} {h : Hp} {d id : Nat} {u ty2 : TypeId} {pos2 : String} {af2 : Array Edge} {y : Operand} {zs ps : List PV}
    (hok : hpOk h) (hid : h.lim ≤ id) (hed : e0 d = .sv (.one (.ptr id 0 0 0))) (hy : slotCells ((⟨e0, h.new id ⟨u, zs.length, [zs], 0, true⟩⟩ : St).eval y) = some ps) (hzl : zs.length = ps.length) (hsz : szOf P u = some ps.length)
    (H : ∀ h', Same h h' → pops P W0 n ops N rest ⟨upd e0 d (.sv (.one (.rop ps))), h'⟩) :
    pops P W0 n ops N (⟨none, .store u (.tmp d) y, ty2, pos2, af2, none⟩ :: rest) ⟨e0, h.new id ⟨u, zs.length, [zs], 0, true⟩⟩ := by
  refine pops_no fun M2 hM2 => ?_
  show popStore P u (e0 d) ((⟨e0, h.new id ⟨u, zs.length, [zs], 0, true⟩⟩ : St).eval y) (h.new id ⟨u, zs.length, [zs], 0, true⟩) M2
  rw [hed]
  unfold popStore
  simp only [blk_new, hy, List.getElem?_cons_zero]
  refine ⟨trivial, hsz, by omega, hM2 _ _ ?_⟩
  have es : splice zs 0 ps = ps := by
    unfold splice
    rw [List.take_zero, List.nil_append, Nat.zero_add, List.drop_eq_nil_of_le (by omega), List.append_nil]
  have eh : (h.new id ⟨u, zs.length, [zs], 0, true⟩).set id ⟨u, zs.length, [zs].set 0 (splice zs 0 ps), 0, true⟩ = h.new id ⟨u, zs.length, [ps], 0, true⟩ := by
    rw [es]
    simp only [Hp.set, Hp.new, List.set_cons_zero]
    congr 1
    funext j
    by_cases e : j = id <;> simp [e]
  rw [eh]
  refine pops_wk (H ⟨h.blk, id + 1⟩ ⟨rfl, by simp only; omega⟩) ⟨less_new hok hid, fun w m R i v hl => ?_⟩
  simp only [upd]
  split
  · rename_i hi
    subst hi
    have hl' : LR w (h.new id ⟨u, zs.length, [ps], 0, true⟩) m (e0 i) v := hl
    rw [hed] at hl'
    exact fresh_rop hzl hok hid R hl'
  · exact hl.ext (less_new hok hid).ext
theorem pops_var {n : Nat} {ops : Array Oper} {N : St → Prop} {rest : List Oper} {e0 : Nat → Slot} {h : Hp} {d : Nat} {u ty1 ty2 : TypeId} {pos1 pos2 : String} {af1 af2 : Array Edge} {y : Operand} {z : Value} {zs ps : List PV}
    (hok : hpOk h) (hd : decide (d < n) = true) (hz : zeroOf P u = some z) (hzc : slotCells (constSlot z) = some zs) (hyd : y ≠ .tmp d) (hy : slotCells ((⟨e0, h⟩ : St).eval y) = some ps) (hzl : zs.length = ps.length) (hpos : 0 < ps.length) (hsz : szOf P u = some ps.length)
    (H : ∀ h', Same h h' → pops P W0 n ops N rest ⟨upd e0 d (.sv (.one (.rop ps))), h'⟩) :
    pops P W0 n ops N (⟨some d, .alloc u, ty1, pos1, af1, none⟩ :: ⟨none, .store u (.tmp d) y, ty2, pos2, af2, none⟩ :: rest) ⟨e0, h⟩ := by
  refine pops_valloc hd hz hzc (by omega) fun id hid => ?_
  refine pops_vstore hok hid (by simp [upd]) (ps := ps) ?_ hzl hsz fun h' s' => ?_
  · rw [← hy]
    cases y with
    | tmp t => simp only [St.eval, upd]; rw [if_neg (fun e => hyd (by rw [e]))]
    | _ => rfl
  · have e : upd (upd e0 d (.sv (.one (.ptr id 0 0 0)))) d (.sv (.one (.rop ps))) = upd e0 d (.sv (.one (.rop ps))) := by
      funext i
      simp only [upd]
      split <;> rfl
    rw [e]
    exact H h' s'
end
end Go.Pw
namespace Go.Pw
open Go Go.RowKit
inductive Inserts (t d : Nat) : List Oper → List (Value × Value) → Prop
  | nil : Inserts t d [] []
  | cons {ty : TypeId} {pos : String} {af : Array Edge} {k : ByteArray} {v : Value} {l : List Oper} {es : List (Value × Value)} (h : Inserts t d l es) :
      Inserts t d (⟨none, .insert t (.tmp d) (.const (.string k)) (.const v), ty, pos, af, none⟩ :: l) ((.string k, v) :: es)
section
variable {P : Program} {W0 : World} {n : Nat} {K : Exit → St → Prop} {e : Nat → Slot} {h : Hp}
end
end Go.Pw
namespace Go.Pw
open Go Go.RowKit
abbrev bldBlk (tb : TypeId) (a buf : PV) : Blk := ⟨tb, 2, [[a, buf]], 0, true⟩
structure BldU (tb t8 : TypeId) (h0 hp : Hp) (id : Nat) (a buf : PV) (l : List UInt8) : Prop where
  lim : h0.lim ≤ id
  keeps : Keeps (h0.new id (bldBlk tb a buf)) hp
  row : RowIs t8 1 (h0.new id (bldBlk tb a buf)) hp (.sv (.one buf)) (l.map byteCell)
  nilE : l = [] → buf = .val (.slice none 0 0)
def Bld (tb t8 : TypeId) (h0 hp : Hp) (id : Nat) (l : List UInt8) : Prop :=
  ∃ a buf, (a = .val (.pointer none) ∨ a = .ptr id 0 0 0) ∧ BldU tb t8 h0 hp id a buf l
section
variable {P : Program} {W0 : World} {tb t8 : TypeId} {h0 hp : Hp} {id : Nat} {a buf : PV} {l : List UInt8}
theorem BldU.blk (B : BldU tb t8 h0 hp id a buf l) : hp.blk id = some (bldBlk tb a buf) := B.keeps.1 _ _ (blk_new _ _ _)
theorem new_ok (hb : hpOk h0) (hid : h0.lim ≤ id) (b : Blk) : hpOk (h0.new id b) := fun j c hj => by
  by_cases e : j = id
  · subst e; simp only [Hp.new]; omega
  · simp only [Hp.new, if_neg e] at hj ⊢
    have := hb j c hj
    omega
theorem keeps_back (hb : hpOk h0) (hid : h0.lim ≤ id) {b : Blk} (K : Keeps (h0.new id b) hp) : Keeps h0 hp := (Keeps.new hb hid).trans K
theorem BldU.old (hb : hpOk h0) (B : BldU tb t8 h0 hp id a buf l) : Keeps h0 hp := keeps_back hb B.lim B.keeps
theorem Bld.old (hb : hpOk h0) (B : Bld tb t8 h0 hp id l) : Keeps h0 hp := by
  obtain ⟨a, buf, _, B⟩ := B
  exact B.old hb
theorem Bld.fresh {hq : Hp} (K : Keeps h0 hq) (hid : hq.lim ≤ id) : Bld tb t8 h0 (hq.new id (bldBlk tb (.val (.pointer none)) (.val (.slice none 0 0)))) id [] := by
  refine ⟨_, _, .inl rfl, ⟨Nat.le_trans K.2 hid, ⟨fun j c hj => ?_, Nat.le_refl _⟩, .nil _ _ _ _, fun _ => rfl⟩⟩
  simp only [Hp.new] at hj ⊢
  split
  · rename_i e; rw [if_pos e] at hj; exact hj
  · rename_i e; rw [if_neg e] at hj; exact K.1 j c hj
theorem row_over {h1 h2 hp hq : Hp} {e : TypeId} {sz : Nat} {sl : Slot} {xs : List (List PV)} (hl : h1.lim = h2.lim) (O : RowIs e sz h1 hp sl xs) (hk : ∀ j b, h1.lim ≤ j → hp.blk j = some b → hq.blk j = some b) : RowIs e sz h2 hq sl xs := by
  rcases O with ⟨x, y⟩ | ⟨i, ver, es, x, y, z, u⟩
  · exact .inl ⟨x, y⟩
  · exact .inr ⟨i, ver, es, x, by rw [← hl]; exact y, hk _ _ y z, u⟩
theorem BldU.put (B : BldU tb t8 h0 hp id a buf l) (a' : PV) : BldU tb t8 h0 (hp.set id (bldBlk tb a' buf)) id a' buf l := by
  refine ⟨B.lim, ⟨fun j c hj => ?_, B.keeps.2⟩, row_over rfl B.row fun j c h1 h2 => ?_, B.nilE⟩
  · have := B.keeps.1 j c
    simp only [Hp.new, Hp.set] at hj this ⊢
    split
    · rename_i e; rw [if_pos e] at hj; exact hj
    · rename_i e; rw [if_neg e] at hj this; exact this hj
  · simp only [Hp.new, Hp.set] at h1 ⊢
    rw [if_neg (by omega)]; exact h2
theorem bld_buf {hq : Hp} {buf' : PV} {l' : List UInt8} (hnil : l' = [] → buf' = .val (.slice none 0 0)) (hid : h0.lim ≤ id) (K : Keeps (h0.new id (bldBlk tb a buf)) hq) (O : RowIs t8 1 (h0.new id (bldBlk tb a buf)) hq (.sv (.one buf')) (l'.map byteCell)) :
    BldU tb t8 h0 (hq.set id (bldBlk tb a buf')) id a buf' l' := by
  refine ⟨hid, ⟨fun j c hj => ?_, K.2⟩, row_over rfl O fun j c h1 h2 => ?_, hnil⟩
  · have := K.1 j c
    simp only [Hp.new, Hp.set] at hj this ⊢
    split
    · rename_i e; rw [if_pos e] at hj; exact hj
    · rename_i e; rw [if_neg e] at hj this; exact this hj
  · simp only [Hp.new, Hp.set] at h1 ⊢
    rw [if_neg (by omega)]; exact h2
theorem RowIs.one {e : TypeId} {sz : Nat} {sl : Slot} {xs : List (List PV)} (O : RowIs e sz h0 hp sl xs) : ∃ p, sl = .sv (.one p) := by
  rcases O with ⟨rfl, _⟩ | ⟨_, _, _, rfl, _⟩ <;> exact ⟨_, rfl⟩
theorem bld_load {ts : TypeId} {d : TypeDesc} {N : Slot → Hp → Prop} (hd : P.underlying ts = some d) (ha : isAggD d = false) (B : BldU tb t8 h0 hp id a buf l) (H : N (.sv (.one buf)) hp) : popLoad P W0 ts (.sv (.one (.ptr id 0 0 1))) hp N := by
  unfold popLoad
  simp only [B.blk, List.getElem?_cons_zero, List.drop_succ_cons, List.drop_zero]
  refine ⟨trivial, ?_⟩
  unfold loadK
  simp only [hd, ha, Bool.false_eq_true, if_false]
  exact H
theorem bld_app {N : Slot → Hp → Prop} {t : TypeId} {src : Slot} {sz' : Nat} {x : List UInt8} {z : Value} {by_ : Nat} (hb : hpOk h0) (ht : P.underlying t = some (.slice t8)) (hz : szOf P t8 = some 1) (hby : bytesOf' P t8 = some by_) (hze : zeroOf P t8 = some z) (hzc : z.cells.size = 1)
    (B : BldU tb t8 h0 hp id a buf l) (hx0 : x ≠ []) (hs : srcOf hp src = some (sz', x.map byteCell)) (hss : x = [] ∨ sz' = 1) (hl : appendLim (l.length + x.length) by_)
    (H : ∀ buf' hq, (∀ N' : Slot → Hp → Prop, ∀ ts, szOf P ts = some 1 → (∀ hq', BldU tb t8 h0 hq' id a buf' (l ++ x) → N' (.tup []) hq') → popStore P ts (.sv (.one (.ptr id 0 0 1))) (.sv (.one buf')) hq N') → N (.sv (.one buf')) hq) : popAppend P t (.sv (.one buf)) src hp N := by
  refine row_app (new_ok hb B.lim _) ht hz hby hze hzc (by decide) B.row B.keeps hs (by rcases hss with h | h; exact .inl (by rw [h]; rfl); exact .inr h) (by simpa using hl) fun sl' hq O K => ?_
  obtain ⟨buf', rfl⟩ := O.one
  rw [← List.map_append] at O
  refine H buf' hq fun N' ts hts H' => ?_
  unfold popStore
  have hblk : hq.blk id = some (bldBlk tb a buf) := K.1 _ _ (blk_new _ _ _)
  simp only [hblk, List.getElem?_cons_zero, slotCells]
  refine ⟨trivial, hts, by simp, H' _ ?_⟩
  exact bld_buf (fun e => absurd (List.append_eq_nil_iff.1 e).2 hx0) B.lim K O
theorem bld_appS {N : Slot → Hp → Prop} {t : TypeId} {x : List UInt8} {z : Value} {by_ : Nat} (hb : hpOk h0) (ht : P.underlying t = some (.slice t8)) (hz : szOf P t8 = some 1) (hby : bytesOf' P t8 = some by_) (hze : zeroOf P t8 = some z) (hzc : z.cells.size = 1)
    (B : BldU tb t8 h0 hp id a buf l) (hl : appendLim (l.length + x.length) by_)
    (H : ∀ buf' hq, (∀ N' : Slot → Hp → Prop, ∀ ts, szOf P ts = some 1 → (∀ hq', BldU tb t8 h0 hq' id a buf' (l ++ x) → N' (.tup []) hq') → popStore P ts (.sv (.one (.ptr id 0 0 1))) (.sv (.one buf')) hq N') → N (.sv (.one buf')) hq) : popAppendStr P t (.sv (.one buf)) (.sv (.one (pstr x))) hp N := by
  by_cases hx0 : x = []
  · subst hx0
    by_cases hl0 : l = []
    · obtain rfl := B.nilE hl0
      subst hl0
      unfold popAppendStr
      simp only [ht, hz, hby, hze]
      refine ⟨trivial, hzc, by simpa [str_size] using hl, fun _ => ?_, fun h => absurd rfl h⟩
      refine H _ _ fun N' ts hts H' => ?_
      unfold popStore
      simp only [B.blk, List.getElem?_cons_zero, slotCells]
      exact ⟨trivial, hts, by simp, H' _ (bld_buf (fun _ => rfl) B.lim B.keeps B.row)⟩
    · refine row_appS (new_ok hb B.lim _) ht hz hby hze hzc B.row B.keeps hl fun sl' hq O K => ?_
      obtain ⟨buf', rfl⟩ := O.one
      refine H buf' hq fun N' ts hts H' => ?_
      unfold popStore
      have hblk : hq.blk id = some (bldBlk tb a buf) := K.1 _ _ (blk_new _ _ _)
      simp only [hblk, List.getElem?_cons_zero, slotCells]
      exact ⟨trivial, hts, by simp, H' _ (bld_buf (fun e => absurd (List.append_eq_nil_iff.1 e).1 hl0) B.lim K O)⟩
  · refine row_appS (new_ok hb B.lim _) ht hz hby hze hzc B.row B.keeps hl fun sl' hq O K => ?_
    obtain ⟨buf', rfl⟩ := O.one
    refine H buf' hq fun N' ts hts H' => ?_
    unfold popStore
    have hblk : hq.blk id = some (bldBlk tb a buf) := K.1 _ _ (blk_new _ _ _)
    simp only [hblk, List.getElem?_cons_zero, slotCells]
    exact ⟨trivial, hts, by simp, H' _ (bld_buf (fun e => absurd (List.append_eq_nil_iff.1 e).2 hx0) B.lim K O)⟩
end
end Go.Pw
