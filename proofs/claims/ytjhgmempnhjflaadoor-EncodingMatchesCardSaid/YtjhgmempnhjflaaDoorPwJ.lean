/-
  PW, part J: append.
-/
import Derived.Test.YtjhgmempnhjflaaDoorPwI
namespace Go.Pw
open Go Go.RowKit

/-- These cells hold these elements. -/
def CR (w : World) (h : Hp) (m : Loc) (cur : List Value) (sz : Nat) (es : List (List PV)) : Prop :=
  ∀ (i : Nat) (e : List PV), es[i]? = some e → e.length = sz ∧ ∀ (j : Nat) (p : PV), e[j]? = some p → ∃ v, cur[i * sz + j]? = some v ∧ VR w h m p v

section
variable {P : Program} {W0 w : World} {h : Hp} {m : Loc} {N : Slot → Hp → Prop}

theorem CR.left {cur z : List Value} {sz : Nat} {es : List (List PV)} (H : CR w h m cur sz es) : CR w h m (cur ++ z) sz es := fun i e hi => ⟨(H i e hi).1, fun j p hj => by
  obtain ⟨v, hv, hr⟩ := (H i e hi).2 j p hj
  exact ⟨v, by rw [List.getElem?_append_left (List.getElem?_eq_some_iff.1 hv).1]; exact hv, hr⟩⟩

theorem CR.append {a b : List Value} {sz : Nat} {xs ys : List (List PV)} (A : CR w h m a sz xs) (hl : a.length = xs.length * sz) (B : CR w h m b sz ys) : CR w h m (a ++ b) sz (xs ++ ys) := fun i e hi => by
  rw [List.getElem?_append] at hi
  split at hi
  · exact A.left i e hi
  · rename_i hn
    obtain ⟨h1, h2⟩ := B _ e hi
    refine ⟨h1, fun j p hj => ?_⟩
    obtain ⟨v, hv, hr⟩ := h2 j p hj
    refine ⟨v, ?_, hr⟩
    have e1 : i * sz = xs.length * sz + (i - xs.length) * sz := by rw [← Nat.add_mul]; congr 1; omega
    rw [List.getElem?_append_right (by omega), show i * sz + j - a.length = (i - xs.length) * sz + j by omega]
    exact hv

theorem CR.take {cur : List Value} {sz k : Nat} {es : List (List PV)} (H : CR w h m cur sz es) : CR w h m (cur.take (k * sz)) sz (es.take k) := fun i e hi => by
  rw [List.getElem?_take] at hi
  split at hi
  · rename_i hik
    obtain ⟨h1, h2⟩ := H i e hi
    refine ⟨h1, fun j p hj => ?_⟩
    obtain ⟨v, hv, hr⟩ := h2 j p hj
    refine ⟨v, ?_, hr⟩
    have hj' : j < sz := by have := (List.getElem?_eq_some_iff.1 hj).1; omega
    have := Nat.mul_le_mul_right sz (show i + 1 ≤ k by omega)
    rw [Nat.add_mul, Nat.one_mul] at this
    rw [List.getElem?_take, if_pos (by omega)]
    exact hv
  · cases hi

theorem RowAt.cr {g off sz : Nat} {xs : List (List PV)} (H : RowAt w h m g off sz xs) :
    ∃ cs : List Value, cs.length = xs.length * sz ∧ (∀ (k : Nat) (u : Value), cs[k]? = some u → w.cell? ((⟨g, off, none⟩ : Addr).add k) = some u) ∧ (∀ u ∈ cs, u.oneCell' = true) ∧ CR w h m cs sz xs := by
  obtain ⟨cs, h1, h2, h3, h4⟩ := H.list
  exact ⟨cs, h1, fun k u hk => by rw [addr_add]; exact h2 k u hk, h3, fun i e hi => ⟨(H i e hi).1, fun j p hj => h4 i e j p hi hj⟩⟩

def appendLim (n by_ : Nat) : Prop := n ≤ 9223372036854775807 ∧ n * by_ ≤ 140737488355328

/-- A new row in the place of an old one, or beside it, after a draw. -/
theorem below_drew_alloc (w : World) (o : Obj) : Below w.heap.size w (w.drew.alloc o) := (Below.refl _ w).drew.alloc (Nat.le_refl _) o

theorem heap_drew_alloc (w : World) (o : Obj) : (w.drew.alloc o).heap[w.heap.size]? = some o := heap_alloc_new w.drew o

def popAppend (P : Program) (t : TypeId) (s x : Slot) (h : Hp) (N : Slot → Hp → Prop) : Prop :=
  match P.underlying t with
  | some (.slice e) => (match szOf P e, bytesOf' P e, zeroOf P e, srcOf h x with
    | some sz, some by_, some z, some (sz', ys) => 0 < sz ∧ z.cells.size = sz ∧ (ys = [] ∨ sz' = sz) ∧
      (match s with
      | .sv (.one (.val (.slice none 0 0))) => appendLim ys.length by_ ∧ (ys = [] → N s h) ∧ (ys ≠ [] → ∀ id, h.lim ≤ id → N (.sv (.one (.own id 0 0 ys.length))) (h.new id ⟨e, sz, ys, 0, true⟩))
      | .sv (.one (.ro true sz2 xs)) => (xs = [] ∨ sz2 = sz) ∧ appendLim (xs.length + ys.length) by_ ∧ (ys = [] → N s h) ∧ (ys ≠ [] → ∀ id, h.lim ≤ id → N (.sv (.one (.own id 0 0 (xs.length + ys.length)))) (h.new id ⟨e, sz, xs ++ ys, 0, true⟩))
      | .sv (.one (.own id ver 0 len)) => (match h.blk id with
        | some b => b.ver = ver ∧ b.plain = true ∧ b.ty = e ∧ b.sz = sz ∧ appendLim (len + ys.length) by_ ∧
            N (.sv (.one (.own id (ver + 1) 0 (len + ys.length)))) (h.set id { b with es := b.es.take len ++ ys, ver := ver + 1 })
        | none => False)
      | _ => False)
    | _, _, _, _ => False)
  | _ => False

theorem run_append_none {t ty e : TypeId} {sz : Nat} (hd : P.underlying t = some (.slice e)) (hs : szOf P e = some sz) (ba : Option Addr) (n c : Nat) (hc : n ≤ c) (ad : Option Addr) (c' : Nat) :
    (Builtin.append_ #[t, t] ty #[.slice ba n c, .slice ad 0 c']).run P w = .ok (.slice ba n c) w := by
  obtain ⟨i, hi, hsz⟩ := Option.map_eq_some_iff.1 hs
  have hf : (Builtin.firstCells sz 0 (.slice ad 0 c')).run P w = .ok #[] w := by
    cases ad <;> simp [Builtin.firstCells, loadCells, loadCellsFrom]
  cases ba <;> simp [Builtin.append_, run_underlying hd, run_sizeOf' hs, Builtin.lenOf, hc, hf, storeCells]

/-- The new row of an append that finds no room. -/
theorem append_born {e : TypeId} {sz n cap : Nat} {z : Value} {all : List Value} {xs : List (List PV)} (H : HR W0 w h m) (h0 : 0 < sz) (hz : z.cells.size = sz) (hl : all.length = n * sz) (hx : xs.length = n) (hn : n ≤ cap) (hcap : cap ≤ maxLen)
    (C : CR w h m all sz xs) {v : Value} (hv : v = .slice (some ⟨w.heap.size, 0, none⟩) n cap) {w' : World} (hw : w' = w.drew.alloc (.cells (all.toArray ++ Builtin.zeroCells z.cells (cap - n)) e))
    (K : ∀ id, h.lim ≤ id → N (.sv (.one (.own id 0 0 n))) (h.new id ⟨e, sz, xs, 0, true⟩)) : OpOut W0 w h m N v w' := by
  subst hv
  subst hw
  have hB := below_drew_alloc w (.cells (all.toArray ++ Builtin.zeroCells z.cells (cap - n)) e)
  have hsize : (all.toArray ++ Builtin.zeroCells z.cells (cap - n)).size = cap * sz := by
    simp only [Array.size_append, List.size_toArray, size_zeroCells, hz, hl, ← Nat.add_mul]
    congr 1
    omega
  have X := HR.born H (Nat.le_refl h.lim) ⟨e, sz, xs, 0, true⟩ w.heap.size cap hB (Nat.le_refl _)
    ⟨_, (0, 0), h0, heap_drew_alloc w _, hsize, by simp only; omega, hcap, fun _ => rfl, .inl (Nat.le_refl _), fun i es hi => ⟨(C i es hi).1, fun j p hj => by
      obtain ⟨u, hu, hr⟩ := (C i es hi).2 j p hj
      refine ⟨u, ?_, hr⟩
      rw [Array.getElem?_append_left (by simpa using (List.getElem?_eq_some_iff.1 hu).1)]
      simpa using hu⟩⟩
  refine ⟨_, _, _, K h.lim (Nat.le_refl _), ?_, X.1, X.2⟩
  refine .own _ _ _ _ _ _ (by simp [Hp.new]) (fun _ _ => Nat.zero_le _) (fun b hb _ => ?_)
  simp only [Hp.new, if_true, Option.some.injEq] at hb
  subst hb
  simp only [Loc.set, if_true, Nat.zero_add, Nat.zero_mul, Nat.sub_zero, Nat.zero_le, and_self, implies_true, and_true]
  omega

theorem popAppend_ok {t ty : TypeId} {s x : Slot} {sv xv : Value} (H : HR W0 w h m) (hk : popAppend P t s x h N) (hs : LR w h m s sv) (hx : LR w h m x xv) :
    ∃ v w', (Builtin.append_ #[t, t] ty #[sv, xv]).run P w = .ok v w' ∧ OpOut W0 w h m N v w' := by
  unfold popAppend at hk
  split at hk
  · rename_i e hd
    split at hk
    · rename_i sz by_ z sz' ys hsz hby hz hsrc
      obtain ⟨h0, hzs, hys, hk⟩ := hk
      obtain ⟨i, hi, hisz⟩ := Option.map_eq_some_iff.1 hsz
      have hiz : i.zero = some z := by unfold zeroOf at hz; rw [hi] at hz; simpa using hz
      have hib : i.bytes = by_ := by unfold bytesOf' at hby; rw [hi] at hby; simpa using hby
      obtain ⟨ad, c', rfl, _, hrow, _⟩ := srcOf_ok H hsrc hx
      split at hk
      · obtain ⟨⟨l1, l2⟩, k1, k2⟩ := hk
        cases hs
        by_cases hy : ys = []
        · subst hy
          exact ⟨_, _, run_append_none hd hsz none 0 0 (Nat.le_refl _) ad c', OpOut.same H (k1 rfl) (.val (.slice none 0 0) rfl)⟩
        · have hpos : 0 < ys.length := List.length_pos_iff.2 hy
          obtain ⟨g, off, rfl, R⟩ := hrow.resolve_left hy
          obtain rfl := hys.resolve_left hy
          obtain ⟨news, n1, n2, n3, n4⟩ := R.cr
          have hrun := run_append_nil (P := P) w t ty e i z hd hi hiz ⟨g, off, none⟩ ys.length c' news (by rw [hisz]; exact n1) n2 hpos (by omega) (by rw [hib]; omega)
          refine ⟨_, _, hrun, append_born (all := news) H h0 hzs n1 rfl (grownCap_ge w _ _ _) (grownCap_le_maxLen w _ _ _ (by unfold maxLen; omega)) n4 rfl rfl (k2 hy)⟩
      · rename_i sz2 xs
        obtain ⟨hxs, ⟨l1, l2⟩, k1, k2⟩ := hk
        obtain ⟨ba, bc, rfl, hbc, hbrow, hbnone⟩ := srcOf_ok (x := .sv (.one (.ro true sz2 xs))) H rfl hs
        have hfull : bc = xs.length := by
          cases hs with
          | ro0 _ _ _ _ hc => simpa using hc rfl
          | ro _ _ _ _ _ _ _ _ hn hc => rw [hc rfl]
        subst hfull
        by_cases hy : ys = []
        · subst hy
          exact ⟨_, _, run_append_none hd hsz ba _ _ (Nat.le_refl _) ad c', OpOut.same H (k1 rfl) hs⟩
        · have hpos : 0 < ys.length := List.length_pos_iff.2 hy
          obtain ⟨g, off, rfl, R⟩ := hrow.resolve_left hy
          obtain rfl := hys.resolve_left hy
          obtain ⟨news, n1, n2, n3, n4⟩ := R.cr
          by_cases hx0 : xs = []
          · subst hx0
            simp only [List.length_nil, Nat.zero_add, List.nil_append] at l1 l2 k2 ⊢
            cases ba with
            | none =>
              have hrun := run_append_nil (P := P) w t ty e i z hd hi hiz ⟨g, off, none⟩ ys.length c' news (by rw [hisz]; exact n1) n2 hpos (by omega) (by rw [hib]; omega)
              refine ⟨_, _, hrun, append_born (all := news) H h0 hzs n1 rfl (grownCap_ge w _ _ _) (grownCap_le_maxLen w _ _ _ (by unfold maxLen; omega)) n4 rfl rfl (k2 hy)⟩
            | some b =>
              have hrun := run_append_grow (P := P) w t ty e i z hd hi hiz b 0 0 [] (by simp) (fun j v hj => by simp at hj) ⟨g, off, none⟩ ys.length c' news (by rw [hisz]; exact n1) n2 (by omega) (by omega) (by rw [hib]; exact growslice_fits (by omega) (by simpa using l2))
              simp only [Nat.zero_add] at hrun
              refine ⟨_, _, hrun, append_born (all := news) H h0 hzs n1 rfl (grownCap_ge w _ _ _) (grownCap_le_maxLen w _ _ _ (by unfold maxLen; omega)) n4 rfl (by simp) (k2 hy)⟩
          · obtain ⟨g2, off2, rfl, R2⟩ := hbrow.resolve_left hx0
            obtain rfl := hxs.resolve_left hx0
            obtain ⟨olds, o1, o2, o3, o4⟩ := R2.cr
            have hrun := run_append_grow (P := P) w t ty e i z hd hi hiz ⟨g2, off2, none⟩ xs.length xs.length olds (by rw [hisz]; exact o1) o2 ⟨g, off, none⟩ ys.length c' news (by rw [hisz]; exact n1) n2 (by omega) (by omega) (by rw [hib]; exact growslice_fits (by omega) l2)
            refine ⟨_, _, hrun, append_born (all := olds ++ news) H h0 hzs (by rw [List.length_append, o1, n1, Nat.add_mul]) (by simp) (grownCap_ge w _ _ _) (grownCap_le_maxLen w _ _ _ (by unfold maxLen; omega)) (o4.append o1 n4) rfl (by simp) (k2 hy)⟩
      · rename_i id ver len
        split at hk
        · rename_i b hb
          obtain ⟨hver, hpl, hty, hbsz, ⟨l1, l2⟩, hN⟩ := hk
          cases hs with
          | own _ _ _ _ sa sc hid hv hb' =>
            obtain ⟨q1, q2, q3⟩ := hb' b hb hver
            obtain ⟨rfl, rfl⟩ := q3 (.inr rfl)
            obtain ⟨_, cur, fr, hg, hcur, hes, hcap, hfr0, hfr, hc⟩ := H.live id b hb
            obtain rfl := hfr0 hpl
            subst hty
            subst hbsz
            simp only [Nat.zero_mul, Nat.sub_zero, Nat.zero_add] at *
            have hlen : (b.es.take len).length = len := by simp; omega
            have C : CR w h m cur.toList b.sz b.es := fun i e hi => ⟨(hc i e hi).1, fun j p hj => by
              obtain ⟨u, hu, hr⟩ := (hc i e hi).2 j p hj
              exact ⟨u, by simpa using hu, hr⟩⟩
            have hlcur : len * b.sz ≤ cur.size := by rw [hcur]; exact Nat.mul_le_mul_right _ (by omega)
            have result : ∀ (g' cap' : Nat) (w' : World) (cur' : Array Value), w'.os = w.os → w'.tape = w.tape → w'.output = w.output → w.heap.size ≤ w'.heap.size →
                (∀ k, k < w.heap.size → k ≠ (m id).1 → w'.heap[k]? = w.heap[k]?) → (g' = (m id).1 ∨ w.heap.size ≤ g') → w'.heap[g']? = some (.cells cur' b.ty (0, 0)) → cur'.size = cap' * b.sz → len + ys.length ≤ cap' → cap' ≤ maxLen →
                CR w h m cur'.toList b.sz (b.es.take len ++ ys) → OpOut W0 w h m N (.slice (some ⟨g', 0, none⟩) (len + ys.length) cap') w' := by
              intro g' cap' w' cur' e1 e2 e3 e4 e5 e6 e7 e8 e9 e10 e11
              have X := HR.upd H hb { b with es := b.es.take len ++ ys, ver := ver + 1 } g' cap' e1 e2 e3 e4 e5 e6 (by simp only; omega) (fun e => by simp only at e; omega)
                ⟨cur', (0, 0), h0, e7, e8, by simp only [List.length_append, hlen]; omega, e10, fun _ => rfl, .inl (Nat.le_refl _), fun i es hi => ⟨(e11 i es hi).1, fun j p hj => by
                  obtain ⟨u, hu, hr⟩ := (e11 i es hi).2 j p hj
                  exact ⟨u, by simpa using hu, hr⟩⟩⟩
              refine ⟨_, _, _, hN, ?_, X.1, X.2⟩
              refine .own _ _ _ _ _ _ hid (fun b2 hb2 => ?_) (fun b2 hb2 _ => ?_)
              · simp only [Hp.set, if_true, Option.some.injEq] at hb2
                subst hb2
                exact Nat.le_refl _
              · simp only [Hp.set, if_true, Option.some.injEq] at hb2
                subst hb2
                simp only [Loc.set, if_true, List.length_append, hlen, Nat.zero_add, Nat.zero_mul, Nat.sub_zero, Nat.zero_le, and_self, implies_true, Nat.le_refl]
            by_cases hy : ys = []
            · subst hy
              refine ⟨_, _, run_append_none hd hsz _ len _ (by omega) ad c', ?_⟩
              have := result (m id).1 (m id).2 w cur rfl rfl rfl (Nat.le_refl _) (fun _ _ _ => rfl) (.inl rfl) hg hcur (by simp; omega) hcap (by simpa using (C.take (k := len)).left (z := cur.toList.drop (len * b.sz)))
              simpa using this
            · have hpos : 0 < ys.length := List.length_pos_iff.2 hy
              obtain ⟨g, off, rfl, R⟩ := hrow.resolve_left hy
              obtain rfl := hys.resolve_left hy
              obtain ⟨news, n1, n2, n3, n4⟩ := R.cr
              have C2 : CR w h m (cur.toList.take (len * b.sz) ++ news) b.sz (b.es.take len ++ ys) := (C.take (k := len)).append (by rw [hlen, List.length_take, Array.length_toList]; omega) n4
              by_cases hroom : len + ys.length ≤ (m id).2
              · have hfit : len * b.sz + news.length ≤ cur.size := by rw [n1, hcur, ← Nat.add_mul]; exact Nat.mul_le_mul_right _ hroom
                have hrun := run_append_room (P := P) w t ty b.ty i hd hi (m id).1 len (m id).2 cur hg ⟨g, off, none⟩ ys.length c' news (by rw [hisz]; exact n1) n2 n3 hroom (by rw [hisz]; exact hfit)
                rw [hisz] at hrun
                refine ⟨_, _, hrun, result (m id).1 (m id).2 _ _ rfl rfl rfl (by simp) (fun k _ hk => setRow_other w _ k _ hk) (.inl rfl) (setRow_heap w _ cur _ b.ty _ hg) ?_ hroom hcap ?_⟩
                · simp only [List.size_toArray, List.length_append, List.length_take, List.length_drop, Array.length_toList]
                  omega
                · exact C2.left
              · have hrun := run_append_grow (P := P) w t ty b.ty i z hd hi hiz ⟨(m id).1, 0, none⟩ len (m id).2 (cur.toList.take (len * b.sz)) (by rw [hisz]; simp; omega) (fun j v hj => by
                    rw [addr_add, Nat.zero_add, cell_of_row w _ _ cur b.ty _ hg]
                    rw [List.getElem?_take] at hj
                    split at hj
                    · simpa using hj
                    · cases hj) ⟨g, off, none⟩ ys.length c' news (by rw [hisz]; exact n1) n2 (by omega) (by omega) (by rw [hib]; exact growslice_fits (by omega) l2)
                have hge := grownCap_ge w (len + ys.length) (m id).2 b.ty
                have hB := below_drew_alloc w (.cells ((cur.toList.take (len * b.sz)).toArray ++ news.toArray ++ Builtin.zeroCells z.cells (grownCap w (len + ys.length) (m id).2 b.ty - (len + ys.length))) b.ty)
                refine ⟨_, _, hrun, result w.heap.size _ _ _ rfl rfl rfl hB.size (fun k hk _ => hB.block k hk) (.inr (Nat.le_refl _)) (heap_drew_alloc w _) ?_ hge (grownCap_le_maxLen w _ _ _ (by unfold maxLen; omega)) ?_⟩
                · simp only [Array.size_append, List.size_toArray, size_zeroCells, hzs, n1, List.length_take, Array.length_toList, Nat.min_eq_left hlcur, ← Nat.add_mul]
                  congr 1
                  omega
                · simp only [Array.toList_append]
                  exact C2.left
        · exact hk.elim
      · exact hk.elim
    · exact hk.elim
  · exact hk.elim

end
end Go.Pw
