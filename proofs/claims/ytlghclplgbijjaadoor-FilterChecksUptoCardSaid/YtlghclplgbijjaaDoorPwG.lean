/- Own work: part of the proof of the row YtlghclplgbijjaaDoorRowFilterChecksUpto; no condition of its own. -/
import Derived.Test.YtlghclplgbijjaaDoorPwA
import Derived.Great.BuildSlice
import Derived.Lib.AppendStr
import Derived.Lib.ConvBytes
import Derived.Laws.BytesString
import Derived.Laws.Runes
import Derived.Laws.Small
namespace Go.Pw
open Go Go.RowKit
def RowAt (w : World) (h : Hp) (m : Loc) (g off sz : Nat) (xs : List (List PV)) : Prop :=
  ∀ (i : Nat) (es : List PV), xs[i]? = some es → es.length = sz ∧ CellsAt w h m g (off + i * sz) es
section
variable {P : Program} {W0 w : World} {h : Hp} {m : Loc} {N : Slot → Hp → Prop}
theorem RowAt.tail {g off sz : Nat} {es : List PV} {xs : List (List PV)} (H : RowAt w h m g off sz (es :: xs)) : RowAt w h m g (off + sz) sz xs := fun i e hi => by
  have := H (i + 1) e (by simpa using hi)
  rwa [Nat.add_mul, Nat.one_mul, show off + (i * sz + sz) = off + sz + i * sz by omega] at this
theorem RowAt.list {g off sz : Nat} {xs : List (List PV)} (H : RowAt w h m g off sz xs) :
    ∃ cs : List Value, cs.length = xs.length * sz ∧ (∀ (k : Nat) (u : Value), cs[k]? = some u → w.cell? ⟨g, off + k, none⟩ = some u) ∧ (∀ u ∈ cs, u.oneCell' = true) ∧
      ∀ (i : Nat) (es : List PV) (j : Nat) (p : PV), xs[i]? = some es → es[j]? = some p → ∃ u, cs[i * sz + j]? = some u ∧ VR w h m p u := by
  induction xs generalizing off with
  | nil => exact ⟨[], by simp, fun k u hk => by simp at hk, by simp, fun i es j p hi => by simp at hi⟩
  | cons es xs ih =>
    obtain ⟨h1, h2⟩ := H 0 es rfl
    simp only [Nat.zero_mul, Nat.add_zero] at h2
    obtain ⟨a, al, ac, av⟩ := h2.list
    obtain ⟨b, bl, bc, b1, bv⟩ := ih H.tail
    refine ⟨a ++ b, ?_, fun k u hk => ?_, fun u hu => ?_, fun i e j p hi hj => ?_⟩
    · rw [List.length_append, al, bl, h1, List.length_cons, Nat.add_mul]; omega
    · rw [List.getElem?_append] at hk
      split at hk
      · exact ac k u hk
      · rename_i hlt
        have := bc _ u hk
        rwa [show off + sz + (k - a.length) = off + k by omega] at this
    · rcases List.mem_append.1 hu with hu | hu
      · obtain ⟨j, hj, rfl⟩ := List.getElem_of_mem hu
        exact VR.oneCell (av j (es[j]'(by omega)) a[j] (List.getElem?_eq_getElem _) (List.getElem?_eq_getElem _))
      · exact b1 u hu
    · cases i with
      | zero =>
        simp at hi
        subst hi
        have hlt : j < a.length := by have := (List.getElem?_eq_some_iff.1 hj).1; omega
        refine ⟨a[j], ?_, av j p a[j] hj (List.getElem?_eq_getElem _)⟩
        rw [Nat.zero_mul, Nat.zero_add, List.getElem?_append_left hlt]
        exact List.getElem?_eq_getElem _
      | succ i =>
        obtain ⟨u, hu, hr⟩ := bv i e j p (by simpa using hi) hj
        refine ⟨u, ?_, hr⟩
        rw [List.getElem?_append_right (by rw [Nat.add_mul]; omega), show (i + 1) * sz + j - a.length = i * sz + j by rw [Nat.add_mul]; omega]
        exact hu
theorem RowAt.drop {g off sz : Nat} {xs : List (List PV)} (H : RowAt w h m g off sz xs) (k : Nat) : RowAt w h m g (off + k * sz) sz (xs.drop k) := fun i e hi => by
  have := H (k + i) e (by simpa [List.getElem?_drop] using hi)
  rwa [Nat.add_mul, ← Nat.add_assoc] at this
theorem RowAt.take {g off sz : Nat} {xs : List (List PV)} (H : RowAt w h m g off sz xs) (k : Nat) : RowAt w h m g off sz (xs.take k) := fun i e hi => by
  refine H i e ?_
  rw [List.getElem?_take] at hi
  split at hi
  · exact hi
  · cases hi
theorem VR.ofRow {full : Bool} {g off sz c n : Nat} {xs : List (List PV)} (H : RowAt w h m g off sz xs) (hn : xs.length = n) (hnc : n ≤ c) (hc : full = true → c = n) (hg : g < w.heap.size)
    (hav : ∀ id b, h.blk id = some b → (m id).1 ≠ g) : VR w h m (.ro full sz xs) (.slice (some ⟨g, off, none⟩) n c) := by
  obtain ⟨cs, hl, hcell, _, hv⟩ := H.list
  refine .ro full sz xs g off c n (fun i j => cs.getD (i * sz + j) undef) hn hc hnc hg hav (fun i es hi => (H i es hi).1) (fun i es j p hi hj => ?_) (fun i es j p hi hj => ?_)
  · obtain ⟨u, hu, _⟩ := hv i es j p hi hj
    rw [List.getD_eq_getElem?_getD, hu, Option.getD_some, Nat.add_assoc]
    exact hcell _ u hu
  · obtain ⟨u, hu, hr⟩ := hv i es j p hi hj
    rw [List.getD_eq_getElem?_getD, hu]
    exact hr
theorem HR.rowAt (H : HR W0 w h m) {id : Nat} {b : Blk} (hb : h.blk id = some b) : RowAt w h m (m id).1 0 b.sz b.es := fun i es hi => by
  obtain ⟨h0, cur, fr, hg, hsz, _, _, _, _, hc⟩ := H.live id b hb
  refine ⟨(hc i es hi).1, ?_⟩
  rw [Nat.zero_add]
  exact H.cellsAt hb hi
def srcOf (h : Hp) (x : Slot) : Option (Nat × List (List PV)) :=
  match x with
  | .sv (.one (.ro _ sz xs)) => some (sz, xs)
  | .sv (.one (.own id ver off len)) => match h.blk id with
    | some b => if b.ver = ver then some (b.sz, (b.es.drop off).take len) else none
    | none => none
  | .sv (.one (.val (.slice none 0 0))) => some (0, [])
  | _ => none
theorem srcOf_ok {x : Slot} {a : Value} {sz : Nat} {xs : List (List PV)} (H : HR W0 w h m) (hs : srcOf h x = some (sz, xs)) (hx : LR w h m x a) :
    ∃ ad c, a = .slice ad xs.length c ∧ xs.length ≤ c ∧ (xs = [] ∨ ∃ g off, ad = some ⟨g, off, none⟩ ∧ RowAt w h m g off sz xs) ∧ (ad = none → xs = []) := by
  unfold srcOf at hs
  split at hs
  · obtain ⟨rfl, rfl⟩ := Prod.mk.inj (Option.some.inj hs)
    cases hx with
    | ro0 => exact ⟨_, _, rfl, Nat.zero_le _, .inl rfl, fun _ => rfl⟩
    | ro _ _ _ g off c n vs hn hc hnc hg hav hlen hcell hvs =>
      subst hn
      exact ⟨_, _, rfl, hnc, .inr ⟨g, off, rfl, fun i es hi => ⟨hlen i es hi, fun j p hj => ⟨vs i j, hcell i es j p hi hj, hvs i es j p hi hj⟩⟩⟩, fun e => by cases e⟩
  · rename_i id ver off len
    split at hs
    · rename_i b hb
      split at hs
      · rename_i hver
        obtain ⟨rfl, rfl⟩ := Prod.mk.inj (Option.some.inj hs)
        cases hx with
        | own _ _ _ _ ad c hid hv hb' =>
          obtain ⟨h1, h2, h3⟩ := hb' b hb hver
          have hlen : ((b.es.drop off).take len).length = len := by simp; omega
          obtain ⟨_, cur, fr, hg, hsz, hle, _⟩ := H.live id b hb
          by_cases h0 : len = 0
          · subst h0
            exact ⟨some ad, c, by rw [hlen], by rw [hlen]; exact Nat.zero_le _, .inl (by simp), fun e => by cases e⟩
          · obtain ⟨rfl, rfl⟩ := h3 (.inl (by omega))
            refine ⟨_, _, by rw [hlen], by rw [hlen]; omega, .inr ⟨(m id).1, off * b.sz, rfl, ?_⟩, fun e => by cases e⟩
            have := ((H.rowAt hb).drop off).take len
            rwa [Nat.zero_add] at this
      · cases hs
    · cases hs
  · obtain ⟨rfl, rfl⟩ := Prod.mk.inj (Option.some.inj hs)
    cases hx
    exact ⟨none, 0, rfl, Nat.le_refl _, .inl rfl, fun _ => rfl⟩
  · cases hs
def lenOfSlot (x : Slot) : Option Nat :=
  match x with
  | .sv (.one (.ro _ _ xs)) => some xs.length
  | .sv (.one (.own _ _ _ len)) => some len
  | .sv (.one (.val (.slice _ n _))) => some n
  | _ => none
theorem lenOfSlot_ok {x : Slot} {a : Value} {n : Nat} (hs : lenOfSlot x = some n) (hx : LR w h m x a) : ∃ ad c, a = .slice ad n c := by
  unfold lenOfSlot at hs
  split at hs
  · obtain rfl := Option.some.inj hs
    cases hx with
    | ro0 => exact ⟨_, _, rfl⟩
    | ro _ _ _ g off c n vs hn => subst hn; exact ⟨_, _, rfl⟩
  · obtain rfl := Option.some.inj hs
    cases hx
    exact ⟨_, _, rfl⟩
  · obtain rfl := Option.some.inj hs
    cases hx
    exact ⟨_, _, rfl⟩
  · cases hs
def popLen (P : Program) (t : TypeId) (x : Slot) (N : Value → Prop) : Prop :=
  match P.underlying t with
  | some .string => (match x with | .sv (.one (.val (.string s))) => N (.int .i64 s.size) | _ => False)
  | some (.array n _) => N (.int .i64 n)
  | some (.slice _) => (match lenOfSlot x with | some n => N (.int .i64 n) | none => False)
  | _ => False
theorem popLen_ok {t ty : TypeId} {x : Slot} {a : Value} {K : Value → Prop} (hk : popLen P t x K) (hx : LR w h m x a) :
    ∃ v, K v ∧ v.oneCell' = true ∧ (Builtin.len_ #[t] ty #[a]).run P w = .ok v w := by
  unfold popLen at hk
  split at hk
  · rename_i hd
    split at hk
    · cases hx
      exact ⟨_, hk, rfl, by simp [Builtin.len_, run_underlying hd, goInt]⟩
    · exact hk.elim
  · rename_i n e hd
    exact ⟨_, hk, rfl, by simp [Builtin.len_, run_underlying hd, goInt]⟩
  · rename_i e hd
    split at hk
    · rename_i n hn
      obtain ⟨ad, c, rfl⟩ := lenOfSlot_ok hn hx
      exact ⟨_, hk, rfl, by simp [Builtin.len_, run_underlying hd, goInt]⟩
    · exact hk.elim
  · exact hk.elim
def partK (P : Program) (t : TypeId) (ps : List PV) (off : Nat) (N : Slot → Prop) : Prop :=
  match P.underlying t with
  | some d =>
    if isAggD d then (match szOf P t with | some sz => off + sz ≤ ps.length ∧ N (.sv (.agg ((ps.drop off).take sz))) | none => False)
    else (match ps[off]? with | some p => N (.sv (.one p)) | none => False)
  | none => False
theorem partK_ok {t : TypeId} {ps : List PV} {off : Nat} {K : Slot → Prop} {vs : List Value} (hk : partK P t ps off K) (hl : vs.length = ps.length)
    (hv : ∀ (j : Nat) (p : PV) (u : Value), ps[j]? = some p → vs[j]? = some u → VR w h m p u) :
    ∃ v r, (part t vs.toArray off).run P w = .ok v w ∧ K r ∧ LR w h m r v := by
  unfold partK at hk
  split at hk
  · rename_i d hd
    split at hk
    · rename_i ha
      split at hk
      · rename_i sz hs
        obtain ⟨hle, hN⟩ := hk
        refine ⟨.agg ((vs.drop off).take sz).toArray, _, ?_, hN, _, rfl, by simp; omega, fun j p u hj hu => ?_⟩
        · simp only [part, Sem.run_bind, run_isAgg' hd, Result.andThen_ok, ha, if_true, run_sizeOf' hs, Sem.run_pure]
          congr 2
          apply Array.ext'
          simp
        · rw [List.getElem?_take] at hj hu
          split at hj
          · rename_i hlt
            rw [if_pos hlt] at hu
            rw [List.getElem?_drop] at hj hu
            exact hv _ p u hj hu
          · cases hj
      · exact hk.elim
    · rename_i ha
      split at hk
      · rename_i p hp
        have hlt : off < vs.length := by have := (List.getElem?_eq_some_iff.1 hp).1; omega
        have ha' : isAggD d = false := by simpa using ha
        refine ⟨vs[off], _, ?_, hk, hv off p vs[off] hp (List.getElem?_eq_getElem hlt)⟩
        simp [part, run_isAgg' hd, ha', hlt]
      · exact hk.elim
  · exact hk.elim
def fieldOf (P : Program) (t : TypeId) (f : Nat) : Option Field :=
  match P.underlying t with
  | some (.struct fs) => fs[f]?
  | _ => none
theorem fieldOf_ok {t : TypeId} {f : Nat} {fd : Field} (hf : fieldOf P t f = some fd) : ∃ fs, P.underlying t = some (.struct fs) ∧ fs[f]? = some fd := by
  unfold fieldOf at hf
  split at hf
  · rename_i fs hd
    exact ⟨fs, hd, hf⟩
  · cases hf
def popField (P : Program) (t : TypeId) (x : Slot) (f : Nat) (N : Slot → Prop) : Prop :=
  match x, fieldOf P t f with
  | .sv (.agg ps), some fd => partK P fd.type ps fd.offset N
  | _, _ => False
theorem popField_ok {t : TypeId} {x : Slot} {f : Nat} {a : Value} {K : Slot → Prop} (hk : popField P t x f K) (hx : LR w h m x a) :
    ∃ v r, (Instr.field t a f).run P w = .ok v w ∧ K r ∧ LR w h m r v := by
  unfold popField at hk
  split at hk
  · rename_i ps fd hf
    obtain ⟨fs, hd, hfs⟩ := fieldOf_ok hf
    obtain ⟨vs, rfl, hl, hv⟩ := hx
    obtain ⟨v, r, h1, h2, h3⟩ := partK_ok (P := P) hk hl hv
    refine ⟨v, r, ?_, h2, h3⟩
    simp only [Instr.field, Sem.run_bind, run_underlying hd, Result.andThen_ok, hfs, asAgg, Sem.run_pure, h1]
  · exact hk.elim
def popFieldAddr (P : Program) (t : TypeId) (x : Slot) (f : Nat) (N : Slot → Prop) : Prop :=
  match fieldOf P t f with
  | some fd => (∃ n, szOf P fd.type = some (n + 1)) ∧ (match x with
    | .sv (.one (.ptr id ver i o)) => N (.sv (.one (.ptr id ver i (o + fd.offset))))
    | .sv (.one (.rop cs)) => N (.sv (.one (.rop (cs.drop fd.offset))))
    | .sv (.one (.val (.pointer (some a)))) => a.spot = none ∧ N (.sv (.one (.val (.pointer (some ⟨a.block, a.off + fd.offset, none⟩)))))
    | _ => False)
  | none => False
theorem popFieldAddr_ok {t : TypeId} {x : Slot} {f : Nat} {a : Value} {K : Slot → Prop} (hk : popFieldAddr P t x f K) (hx : LR w h m x a) :
    ∃ v r, (Instr.fieldAt t a f).run P w = .ok v w ∧ K r ∧ LR w h m r v := by
  unfold popFieldAddr at hk
  split at hk
  · rename_i fd hf
    obtain ⟨⟨n, hn⟩, hk⟩ := hk
    obtain ⟨fs, hd, hfs⟩ := fieldOf_ok hf
    have run : ∀ ad : Addr, (Instr.fieldAt t (.pointer (some ad)) f).run P w = .ok (.pointer (some (ad.add fd.offset))) w := fun ad => by
      simp [Instr.fieldAt, run_underlying hd, hfs, Instr.sureAddr, fieldPlace, run_sizeOf' hn]
    split at hk
    · rename_i id ver i o
      cases hx with
      | ptr _ _ _ _ ad hid hv hb =>
        refine ⟨_, _, run ad, hk, ?_⟩
        exact .ptr _ _ _ _ _ hid hv (fun b h1 h2 => by rw [hb b h1 h2, addr_add, Nat.add_assoc])
    · rename_i cs
      cases hx with
      | rop _ g off vs hg hav hcell hvs =>
        refine ⟨_, _, run _, hk, ?_⟩
        rw [addr_add]
        refine .rop _ g _ (fun j => vs (fd.offset + j)) hg hav (fun j p hj => ?_) (fun j p hj => ?_)
        · rw [List.getElem?_drop] at hj
          have := hcell _ p hj
          rwa [← Nat.add_assoc] at this
        · rw [List.getElem?_drop] at hj
          exact hvs _ p hj
    · rename_i ad
      obtain ⟨hs, hk⟩ := hk
      cases hx
      refine ⟨_, _, run ad, hk, ?_⟩
      obtain ⟨b, o, s⟩ := ad
      simp only at hs
      subst hs
      rw [addr_add]
      exact .val _ rfl
    · exact hk.elim
  · exact hk.elim
end
end Go.Pw
namespace Go.Pw
open Go Go.RowKit
section
variable {P : Program} {W0 w : World} {h : Hp} {m : Loc} {N : Slot → Hp → Prop}
def popIndexAddr (P : Program) (t : TypeId) (x ix : Slot) (h : Hp) (N : Slot → Prop) : Prop :=
  match ix with
  | .sv (.one (.val (.int _ i))) =>
    (match P.underlying t, x with
    | some (.slice e), .sv (.one (.ro _ sz xs)) => (match xs[i.toNat]? with | some es => 0 ≤ i ∧ szOf P e = some sz ∧ N (.sv (.one (.rop es))) | none => False)
    | some (.slice e), .sv (.one (.own id ver off len)) => (match h.blk id with
      | some b => b.ver = ver ∧ 0 ≤ i ∧ i < len ∧ szOf P e = some b.sz ∧ N (.sv (.one (.ptr id ver (off + i.toNat) 0)))
      | none => False)
    | some (.array n e), .sv (.one (.ptr id ver i0 o)) => 0 ≤ i ∧ i < n ∧ (match szOf P e with | some sz => N (.sv (.one (.ptr id ver i0 (o + i.toNat * sz)))) | none => False)
    | some (.array n e), .sv (.one (.rop cs)) => 0 ≤ i ∧ i < n ∧ (match szOf P e with | some sz => N (.sv (.one (.rop (cs.drop (i.toNat * sz))))) | none => False)
    | some (.array n e), .sv (.one (.val (.pointer (some a)))) => 0 ≤ i ∧ i < n ∧ a.spot = none ∧ (match szOf P e with | some sz => N (.sv (.one (.val (.pointer (some ⟨a.block, a.off + i.toNat * sz, none⟩))))) | none => False)
    | _, _ => False)
  | _ => False
theorem popIndexAddr_ok {t : TypeId} {x ix : Slot} {a b : Value} {K : Slot → Prop} (hk : popIndexAddr P t x ix h K) (hx : LR w h m x a) (hi : LR w h m ix b) :
    ∃ v r, (Instr.indexAt t a b).run P w = .ok v w ∧ K r ∧ LR w h m r v := by
  unfold popIndexAddr at hk
  split at hk
  · rename_i k i
    cases hi
    split at hk
    · rename_i e f sz xs hd
      split at hk
      · rename_i es hes
        obtain ⟨h0, hs, hk⟩ := hk
        have hlt : i.toNat < xs.length := (List.getElem?_eq_some_iff.1 hes).1
        cases hx with
        | ro0 => simp at hlt
        | ro _ _ _ g off c n vs hn hc hnc hg hav hlen hcell hvs =>
          subst hn
          have hin : 0 ≤ i ∧ i < ((xs.length : Nat) : Int) := ⟨h0, by omega⟩
          refine ⟨_, _, ?_, hk, .rop es g (off + i.toNat * sz) (fun j => vs i.toNat j) hg hav (fun j p hj => hcell _ es j p hes hj) (fun j p hj => hvs _ es j p hes hj)⟩
          simp only [Instr.indexAt, asIntOf, Sem.run_bind, Sem.run_pure, Result.andThen_ok, run_underlying hd, hin, and_self, if_true, run_sizeOf' hs, addr_add]
      · exact hk.elim
    · rename_i e id ver off len hd
      split at hk
      · rename_i bl hb
        obtain ⟨hver, h0, hlt, hs, hk⟩ := hk
        cases hx with
        | own _ _ _ _ ad c hid hv hb' =>
          obtain ⟨h1, h2, h3⟩ := hb' bl hb hver
          obtain ⟨rfl, rfl⟩ := h3 (.inl (by omega))
          refine ⟨.pointer (some ⟨(m id).1, (off + i.toNat) * bl.sz, none⟩), _, ?_, hk, .ptr _ _ _ _ _ hid hv (fun b2 hb2 _ => ?_)⟩
          · simp only [Instr.indexAt, asIntOf, Sem.run_bind, Sem.run_pure, Result.andThen_ok, run_underlying hd, h0, hlt, and_self, if_true, run_sizeOf' hs, addr_add, Nat.add_mul]
          · obtain rfl := Option.some.inj (hb.symm.trans hb2)
            rfl
      · exact hk.elim
    · rename_i n e id ver i0 o hd
      obtain ⟨h0, hlt, hk⟩ := hk
      split at hk
      · rename_i sz hs
        cases hx with
        | ptr _ _ _ _ ad hid hv hb' =>
          refine ⟨_, _, ?_, hk, .ptr _ _ _ _ (ad.add (i.toNat * sz)) hid hv (fun b2 hb2 hv2 => by rw [hb' b2 hb2 hv2, addr_add, Nat.add_assoc])⟩
          simp only [Instr.indexAt, asIntOf, Instr.sureAddr, Sem.run_bind, Sem.run_pure, Result.andThen_ok, run_underlying hd, h0, hlt, and_self, if_true, run_sizeOf' hs]
      · exact hk.elim
    · rename_i n e cs hd
      obtain ⟨h0, hlt, hk⟩ := hk
      split at hk
      · rename_i sz hs
        cases hx with
        | rop _ g off vs hg hav hcell hvs =>
          refine ⟨_, _, ?_, hk, .rop _ g (off + i.toNat * sz) (fun j => vs (i.toNat * sz + j)) hg hav (fun j p hj => ?_) (fun j p hj => ?_)⟩
          · simp only [Instr.indexAt, asIntOf, Instr.sureAddr, Sem.run_bind, Sem.run_pure, Result.andThen_ok, run_underlying hd, h0, hlt, and_self, if_true, run_sizeOf' hs, addr_add]
          · rw [List.getElem?_drop] at hj
            have := hcell _ p hj
            rwa [← Nat.add_assoc] at this
          · rw [List.getElem?_drop] at hj
            exact hvs _ p hj
      · exact hk.elim
    · rename_i n e ad hd
      obtain ⟨h0, hlt, hsp, hk⟩ := hk
      split at hk
      · rename_i sz hs
        cases hx
        obtain ⟨blk, o, s⟩ := ad
        simp only at hsp
        subst hsp
        refine ⟨_, _, ?_, hk, .val _ rfl⟩
        simp only [Instr.indexAt, asIntOf, Instr.sureAddr, Sem.run_bind, Sem.run_pure, Result.andThen_ok, run_underlying hd, h0, hlt, and_self, if_true, run_sizeOf' hs, addr_add]
      · exact hk.elim
    · exact hk.elim
  · exact hk.elim
def popIndex (P : Program) (t : TypeId) (x ix : Slot) (N : Slot → Prop) : Prop :=
  match ix with
  | .sv (.one (.val (.int _ i))) =>
    (match P.underlying t, x with
    | some .string, .sv (.one (.val (.string s))) => (match s[i.toNat]? with | some c => 0 ≤ i ∧ N (.sv (.one (.val (.int .u8 c.toNat)))) | none => False)
    | some (.array n e), .sv (.agg ps) => 0 ≤ i ∧ i < n ∧ (match szOf P e with | some sz => partK P e ps (i.toNat * sz) N | none => False)
    | _, _ => False)
  | _ => False
theorem popIndex_ok {t : TypeId} {x ix : Slot} {a b : Value} {K : Slot → Prop} (hk : popIndex P t x ix K) (hx : LR w h m x a) (hi : LR w h m ix b) :
    ∃ v r, (Instr.index t a b).run P w = .ok v w ∧ K r ∧ LR w h m r v := by
  unfold popIndex at hk
  split at hk
  · rename_i k i
    cases hi
    split at hk
    · rename_i s hd
      cases hx
      split at hk
      · rename_i c hc
        obtain ⟨h0, hk⟩ := hk
        refine ⟨_, _, ?_, hk, .val _ rfl⟩
        simp only [Instr.index, asIntOf, Sem.run_bind, Sem.run_pure, Result.andThen_ok, run_underlying hd, if_pos h0, hc]
      · exact hk.elim
    · rename_i n e ps hd
      obtain ⟨h0, hlt, hk⟩ := hk
      split at hk
      · rename_i sz hs
        obtain ⟨vs, rfl, hl, hv⟩ := hx
        obtain ⟨v, r, h1, h2, h3⟩ := partK_ok (P := P) hk hl hv
        refine ⟨v, r, ?_, h2, h3⟩
        simp only [Instr.index, asIntOf, Sem.run_bind, Sem.run_pure, Result.andThen_ok, run_underlying hd, h0, hlt, and_self, if_true, run_sizeOf' hs, h1]
      · exact hk.elim
    · exact hk.elim
  · exact hk.elim
def boundOf (d : Nat) : Option Slot → Option Int
  | none => some d
  | some (.sv (.one (.val (.int _ i)))) => some i
  | some _ => none
def popSlice (P : Program) (t : TypeId) (x : Slot) (lo hi : Option Slot) (h : Hp) (N : Slot → Prop) : Prop :=
  match P.underlying t, x with
  | some .string, .sv (.one (.val (.string s))) => (match boundOf 0 lo, boundOf s.size hi with
    | some l, some k => 0 ≤ l ∧ l ≤ k ∧ k ≤ s.size ∧ N (.sv (.one (.val (.string (s.extract l.toNat k.toNat)))))
    | _, _ => False)
  | some (.slice e), .sv (.one (.ro _ sz xs)) => (match boundOf 0 lo, boundOf xs.length hi with
    | some l, some k => 0 ≤ l ∧ l ≤ k ∧ k ≤ xs.length ∧ szOf P e = some sz ∧ N (.sv (.one (.ro false sz ((xs.take k.toNat).drop l.toNat))))
    | _, _ => False)
  | some (.slice e), .sv (.one (.own id ver off len)) => (match boundOf 0 lo, boundOf len hi, h.blk id with
    | some l, some k, some b => b.ver = ver ∧ 0 ≤ l ∧ l ≤ k ∧ k ≤ len ∧ szOf P e = some b.sz ∧ N (.sv (.one (.own id ver (off + l.toNat) (k.toNat - l.toNat))))
    | _, _, _ => False)
  | some (.slice e), .sv (.one (.val (.slice none 0 0))) => (match boundOf 0 lo, boundOf 0 hi with
    | some l, some k => l = 0 ∧ k = 0 ∧ (∃ sz, szOf P e = some sz) ∧ N (.sv (.one (.val (.slice none 0 0))))
    | _, _ => False)
  | _, _ => False
theorem run_sliceBounds {isSlice : Bool} {len cap : Nat} {lo hi : Option Slot} {lv hv : Option Value} {l k : Int}
    (hlo : ∀ s, lo = some s → ∃ v, lv = some v ∧ LR w h m s v) (hln : lo = none → lv = none) (hhi : ∀ s, hi = some s → ∃ v, hv = some v ∧ LR w h m s v) (hhn : hi = none → hv = none)
    (h1 : boundOf 0 lo = some l) (h2 : boundOf len hi = some k) (h3 : 0 ≤ l) (h4 : l ≤ k) (h5 : k ≤ len) (h6 : len ≤ cap) :
    (Instr.sliceBounds isSlice len cap lv hv none).run P w = .ok (l.toNat, k.toNat, cap) w := by
  have hbound : ∀ (v : Value) (kk : IntKind) (i : Int) (y : Nat) (c : BoundsCode), v = .int kk i → 0 ≤ i → i ≤ y → (Instr.sliceBound v y c).run P w = .ok i.toNat w := by
    rintro v kk i y c rfl a b
    simp only [Instr.sliceBound, asIntOf, Sem.run_bind, Sem.run_pure, Result.andThen_ok, a, b, and_self, if_true]
  have get : ∀ (o : Option Slot) (ov : Option Value) (d : Nat) (q : Int), (∀ s, o = some s → ∃ v, ov = some v ∧ LR w h m s v) → (o = none → ov = none) → boundOf d o = some q → (ov = none ∧ q = d) ∨ ∃ kk, ov = some (.int kk q) := by
    intro o ov d q hs hn hb
    cases o with
    | none => simp [boundOf] at hb; exact .inl ⟨hn rfl, hb.symm⟩
    | some s =>
      obtain ⟨v, rfl, hr⟩ := hs s rfl
      unfold boundOf at hb
      split at hb
      · rename_i e; cases e
      · rename_i kk i e
        obtain rfl := Option.some.inj e
        obtain rfl := Option.some.inj hb
        cases hr
        exact .inr ⟨kk, rfl⟩
      · cases hb
  rcases get lo lv 0 l hlo hln h1 with ⟨rfl, e1⟩ | ⟨kl, rfl⟩ <;> rcases get hi hv len k hhi hhn h2 with ⟨rfl, e2⟩ | ⟨kh, rfl⟩
  · subst e1; subst e2
    simp [Instr.sliceBounds]
  · subst e1
    have := hbound (.int kh k) kh k cap (if isSlice then .sliceAcap else .sliceAlen) rfl (by omega) (by omega)
    simp [Instr.sliceBounds, this]
  · subst e2
    have := hbound (.int kl l) kl l len .sliceB rfl h3 (by omega)
    simp [Instr.sliceBounds, this]
  · have a1 := hbound (.int kh k) kh k cap (if isSlice then .sliceAcap else .sliceAlen) rfl (by omega) (by omega)
    have a2 := hbound (.int kl l) kl l k.toNat .sliceB rfl h3 (by omega)
    simp [Instr.sliceBounds, a1, a2]
theorem popSlice_ok {t : TypeId} {x : Slot} {lo hi : Option Slot} {a : Value} {lv hv : Option Value} {K : Slot → Prop} (H : HR W0 w h m) (hk : popSlice P t x lo hi h K) (hx : LR w h m x a)
    (hlo : ∀ s, lo = some s → ∃ v, lv = some v ∧ LR w h m s v) (hln : lo = none → lv = none) (hhi : ∀ s, hi = some s → ∃ v, hv = some v ∧ LR w h m s v) (hhn : hi = none → hv = none) :
    ∃ v r, (Instr.sliceAt t a lv hv none).run P w = .ok v w ∧ K r ∧ LR w h m r v := by
  unfold popSlice at hk
  split at hk
  · rename_i s hd
    cases hx
    split at hk
    · rename_i l k h1 h2
      obtain ⟨h3, h4, h5, hk⟩ := hk
      have hb := run_sliceBounds (P := P) (isSlice := false) (cap := s.size) hlo hln hhi hhn h1 h2 h3 h4 h5 (Nat.le_refl _)
      refine ⟨_, _, ?_, hk, .val _ rfl⟩
      simp only [Instr.sliceAt, Instr.slice, Sem.run_bind, run_underlying hd, Result.andThen_ok, Option.isSome_none, Bool.false_eq_true, if_false, hb, Sem.run_pure]
    · exact hk.elim
  · rename_i e f sz xs hd
    split at hk
    · rename_i l k h1 h2
      obtain ⟨h3, h4, h5, hs, hk⟩ := hk
      have hlen : ((xs.take k.toNat).drop l.toNat).length = k.toNat - l.toNat := by simp; omega
      cases hx with
      | ro0 _ _ ad c hc =>
        have hb := run_sliceBounds (P := P) (isSlice := true) (cap := c) hlo hln hhi hhn h1 h2 h3 h4 h5 (by simp)
        simp only [List.length_nil] at h5
        have e1 : l = 0 := by omega
        have e2 : k = 0 := by omega
        subst e1; subst e2
        refine ⟨.slice (if c = 0 then ad else ad.map (·.add (0 * sz))) 0 (c - 0), _, ?_, hk, ?_⟩
        · simp only [List.length_nil] at hb
          simp only [Instr.sliceAt, Instr.slice, Sem.run_bind, run_underlying hd, Result.andThen_ok, hb, run_sizeOf' hs, Sem.run_pure]
          rfl
        · exact .ro0 _ _ _ _ (fun e => by cases e)
      | ro _ _ _ g off c n vs hn hc hnc hg hav hlen' hcell hvs =>
        subst hn
        have hb := run_sliceBounds (P := P) (isSlice := true) (cap := c) hlo hln hhi hhn h1 h2 h3 h4 h5 hnc
        refine ⟨.slice (if c = l.toNat then some ⟨g, off, none⟩ else (some (⟨g, off, none⟩ : Addr)).map (·.add (l.toNat * sz))) (k.toNat - l.toNat) (c - l.toNat), _, ?_, hk, ?_⟩
        · simp only [Instr.sliceAt, Instr.slice, Sem.run_bind, run_underlying hd, Result.andThen_ok, hb, run_sizeOf' hs, Sem.run_pure]
        · have hrow : RowAt w h m g off sz xs := fun i es hi => ⟨hlen' i es hi, fun j p hj => ⟨vs i j, hcell i es j p hi hj, hvs i es j p hi hj⟩⟩
          by_cases hcl : c = l.toNat
          · rw [if_pos hcl]
            have hkl : k.toNat - l.toNat = 0 := by omega
            rw [hkl] at hlen ⊢
            rw [List.eq_nil_of_length_eq_zero hlen]
            exact .ro0 _ _ _ _ (fun e => by cases e)
          · rw [if_neg hcl]
            simp only [Option.map_some, addr_add]
            exact VR.ofRow ((hrow.take k.toNat).drop l.toNat) hlen (by omega) (fun e => by cases e) hg hav
    · exact hk.elim
  · rename_i e id ver off len hd
    split at hk
    · rename_i l k b h1 h2 hb0
      obtain ⟨hver, h3, h4, h5, hs, hk⟩ := hk
      cases hx with
      | own _ _ _ _ ad c hid hv' hb' =>
        obtain ⟨q1, q2, q3⟩ := hb' b hb0 hver
        obtain ⟨_, cur, fr, hg, hsz, hle, _⟩ := H.live id b hb0
        have hlc : len ≤ c := by
          by_cases h0 : 0 < len ∨ off = 0
          · obtain ⟨_, rfl⟩ := q3 h0
            omega
          · have : len = 0 := by omega
            omega
        have hb := run_sliceBounds (P := P) (isSlice := true) (cap := c) hlo hln hhi hhn h1 h2 h3 h4 h5 hlc
        refine ⟨.slice (if c = l.toNat then some ad else (some ad).map (·.add (l.toNat * b.sz))) (k.toNat - l.toNat) (c - l.toNat), _, ?_, hk, ?_⟩
        · simp only [Instr.sliceAt, Instr.slice, Sem.run_bind, run_underlying hd, Result.andThen_ok, hb, run_sizeOf' hs, Sem.run_pure]
        · have key : ∀ ad2, (0 < k.toNat - l.toNat ∨ off + l.toNat = 0 → ad2 = ⟨(m id).1, (off + l.toNat) * b.sz, none⟩ ∧ c - l.toNat = (m id).2 - (off + l.toNat)) →
              VR w h m (.own id ver (off + l.toNat) (k.toNat - l.toNat)) (.slice (some ad2) (k.toNat - l.toNat) (c - l.toNat)) := fun ad2 hh =>
            .own _ _ _ _ _ _ hid hv' (fun b2 hb2 _ => by
              obtain rfl := Option.some.inj (hb0.symm.trans hb2)
              exact ⟨by omega, by omega, hh⟩)
          by_cases hcl : c = l.toNat
          · rw [if_pos hcl]
            refine key ad (fun hor => ?_)
            rcases hor with h0 | h0
            · omega
            · obtain ⟨rfl, rfl⟩ := q3 (.inr (by omega))
              have : l.toNat = 0 := by omega
              have : off = 0 := by omega
              subst this
              simp [this]
          · rw [if_neg hcl]
            refine key (ad.add (l.toNat * b.sz)) (fun hor => ?_)
            obtain ⟨rfl, rfl⟩ := q3 (by omega)
            refine ⟨by rw [addr_add, Nat.add_mul], by omega⟩
    · exact hk.elim
  · rename_i e hd
    split at hk
    · rename_i l k h1 h2
      obtain ⟨rfl, rfl, ⟨sz, hs⟩, hk⟩ := hk
      cases hx
      have hb := run_sliceBounds (P := P) (isSlice := true) (len := 0) (cap := 0) hlo hln hhi hhn h1 h2 (Int.le_refl _) (Int.le_refl _) (Int.le_refl _) (Nat.le_refl _)
      refine ⟨_, _, ?_, hk, .val (.slice none 0 0) rfl⟩
      simp only [Instr.sliceAt, Instr.slice, Sem.run_bind, run_underlying hd, Result.andThen_ok, hb, run_sizeOf' hs, Sem.run_pure]
      rfl
    · exact hk.elim
  · exact hk.elim
end
end Go.Pw
namespace Go.Pw
open Go Go.RowKit
section
variable {P : Program} {W0 w : World} {h : Hp} {m : Loc} {N : Slot → Hp → Prop}
theorem flat_row {sz : Nat} {vs : List Value} {ess : List (List PV)} (hl : vs.length = ess.length) (hv : ∀ (i : Nat) (v : Value) (es : List PV), vs[i]? = some v → ess[i]? = some es →
      ∃ cs : List Value, v.cells = cs.toArray ∧ cs.length = sz ∧ es.length = sz ∧ (∀ u ∈ cs, u.oneCell' = true) ∧ ∀ (j : Nat) (p : PV) (u : Value), es[j]? = some p → cs[j]? = some u → VR w h m p u) :
    (∀ v ∈ vs, v.cells.size = sz) ∧ ∀ (i : Nat) (es : List PV), ess[i]? = some es → es.length = sz ∧ ∀ (j : Nat) (p : PV), es[j]? = some p → ∃ u, (vs.flatMap fun v => v.cells.toList)[i * sz + j]? = some u ∧ VR w h m p u := by
  induction vs generalizing ess with
  | nil =>
    obtain rfl : ess = [] := List.eq_nil_of_length_eq_zero (by simpa using hl.symm)
    exact ⟨by simp, fun i es hi => by simp at hi⟩
  | cons v vs ih =>
    cases ess with
    | nil => simp at hl
    | cons es ess =>
      obtain ⟨cs, hcs, h1, h2, _, h4⟩ := hv 0 v es rfl rfl
      obtain ⟨a1, a2⟩ := ih (ess := ess) (by simpa using hl) (fun i v' es' hi hi' => hv (i + 1) v' es' (by simpa using hi) (by simpa using hi'))
      refine ⟨fun u hu => ?_, fun i e hi => ?_⟩
      · rcases List.mem_cons.1 hu with rfl | hu
        · rw [hcs]; simpa using h1
        · exact a1 u hu
      · have hflat : ((v :: vs).flatMap fun v => v.cells.toList) = cs ++ vs.flatMap fun v => v.cells.toList := by simp [hcs]
        rw [hflat]
        cases i with
        | zero =>
          simp at hi
          subst hi
          refine ⟨h2, fun j p hj => ?_⟩
          have hlt : j < cs.length := by have := (List.getElem?_eq_some_iff.1 hj).1; omega
          refine ⟨cs[j], ?_, h4 j p cs[j] hj (List.getElem?_eq_getElem _)⟩
          rw [Nat.zero_mul, Nat.zero_add, List.getElem?_append_left hlt]
          exact List.getElem?_eq_getElem _
        | succ i =>
          obtain ⟨b1, b2⟩ := a2 i e (by simpa using hi)
          refine ⟨b1, fun j p hj => ?_⟩
          obtain ⟨u, hu, hr⟩ := b2 j p hj
          refine ⟨u, ?_, hr⟩
          rw [List.getElem?_append_right (by rw [Nat.add_mul]; omega), show (i + 1) * sz + j - cs.length = i * sz + j by rw [Nat.add_mul]; omega]
          exact hu
def popBuildSlice (P : Program) (t : TypeId) (len : Nat) (parts : List (Nat × Slot)) (N : Slot → Prop) : Prop :=
  match P.underlying t with
  | some (.slice e) => (match szOf P e, parts.mapM (fun x => slotCells x.2) with
    | some sz, some ess => 0 < sz ∧ 0 < len ∧ len = ess.length ∧ parts.map (·.1) = List.range len ∧ (∀ es ∈ ess, es.length = sz) ∧ len * sz ≤ 16777216 ∧ (zeroOf P e).isSome = true ∧ N (.sv (.one (.ro true sz ess)))
    | _, _ => False)
  | _ => False
theorem mapM_cells : ∀ {parts : List (Nat × Slot)} {vals : List (Nat × Value)} {ess : List (List PV)}, parts.mapM (fun x => slotCells x.2) = some ess → parts.length = vals.length →
    (∀ (i : Nat) (x : Nat × Slot) (y : Nat × Value), parts[i]? = some x → vals[i]? = some y → x.1 = y.1 ∧ LR w h m x.2 y.2) →
    ess.length = vals.length ∧ vals.map (·.1) = parts.map (·.1) ∧ ∀ (i : Nat) (v : Value) (es : List PV), (vals.map (·.2))[i]? = some v → ess[i]? = some es →
      ∃ cs : List Value, v.cells = cs.toArray ∧ cs.length = es.length ∧ (∀ u ∈ cs, u.oneCell' = true) ∧ ∀ (j : Nat) (p : PV) (u : Value), es[j]? = some p → cs[j]? = some u → VR w h m p u
  | [], vals, ess, hm, hl, hr => by
    obtain rfl : vals = [] := List.eq_nil_of_length_eq_zero (by simpa using hl.symm)
    simp at hm
    subst hm
    exact ⟨rfl, rfl, fun i v es hi => by simp at hi⟩
  | x :: parts, [], ess, hm, hl, hr => by simp at hl
  | x :: parts, y :: vals, ess, hm, hl, hr => by
    simp only [List.mapM_cons, Option.bind_eq_bind, Option.pure_def] at hm
    obtain ⟨es, h1, hm⟩ := Option.bind_eq_some_iff.1 hm
    obtain ⟨rest, h2, hm⟩ := Option.bind_eq_some_iff.1 hm
    obtain rfl := Option.some.inj hm
    obtain ⟨a1, a2, a3⟩ := mapM_cells (vals := vals) h2 (by simpa using hl) (fun i p q hp hq => hr (i + 1) p q (by simpa using hp) (by simpa using hq))
    obtain ⟨e0, r0⟩ := hr 0 x y rfl rfl
    obtain ⟨cs, c1, c2, c3, c4⟩ := slotCells_ok r0 h1
    refine ⟨by simp [a1], by simp [a2, e0], fun i v e hi he => ?_⟩
    cases i with
    | zero => simp at hi he; subst hi; subst he; exact ⟨cs, c1, c2, c3, c4⟩
    | succ i => exact a3 i v e (by simpa using hi) (by simpa using he)
theorem popBuildSlice_ok {t : TypeId} {len : Nat} {parts : List (Nat × Slot)} {vals : List (Nat × Value)} (H : HR W0 w h m) (hk : popBuildSlice P t len parts (fun s => N s h)) (hl : parts.length = vals.length)
    (hr : ∀ (i : Nat) (x : Nat × Slot) (y : Nat × Value), parts[i]? = some x → vals[i]? = some y → x.1 = y.1 ∧ LR w h m x.2 y.2) :
    ∃ v w', (Instr.buildSlice t len vals.toArray).run P w = .ok v w' ∧ OpOut W0 w h m N v w' := by
  unfold popBuildSlice at hk
  split at hk
  · rename_i e hd
    split at hk
    · rename_i sz ess hs hm
      obtain ⟨h0, hlen0, hlen, hidx, hes, hsmall, hz, hN⟩ := hk
      obtain ⟨a1, a2, a3⟩ := mapM_cells hm hl hr
      obtain ⟨ie, hie, hsz⟩ := Option.map_eq_some_iff.1 hs
      obtain ⟨z, hz⟩ := Option.isSome_iff_exists.1 hz
      unfold zeroOf at hz
      rw [hie] at hz
      simp only [Option.bind_some] at hz
      have hrow := flat_row (w := w) (h := h) (m := m) (sz := sz) (vs := vals.map (·.2)) (ess := ess) (by simp [a1]) (fun i v es hi he => by
        obtain ⟨cs, c1, c2, c3, c4⟩ := a3 i v es hi he
        have := hes es (List.mem_of_getElem? he)
        exact ⟨cs, c1, by omega, this, c3, c4⟩)
      have hfill := Great.fill_whole h0 (vals.map (·.2)) ((Array.range (len * ie.size)).map (z.cells[· % z.cells.size]!)) hrow.1 (by simp [hsz, hlen, a1])
      have hparts : (((vals.map (·.2)).zipIdx 0).map fun x => (x.2, x.1)) = vals := by
        apply List.ext_getElem?
        intro i
        simp only [List.getElem?_map, List.getElem?_zipIdx, Nat.zero_add]
        cases hv : vals[i]? with
        | none => simp
        | some y =>
          simp only [Option.map_some, Option.some.injEq]
          have h1 : (vals.map (·.1))[i]? = some y.1 := by simp [hv]
          rw [a2, hidx, List.getElem?_range (by have := (List.getElem?_eq_some_iff.1 hv).1; omega)] at h1
          obtain rfl := Option.some.inj h1
          rfl
      rw [hparts] at hfill
      have hsz' : len * ie.size ≤ 16777216 := by rw [hsz]; exact hsmall
      have hpos : ¬ len * ie.size = 0 := by
        rw [hsz]
        have := Nat.mul_pos hlen0 h0
        omega
      have hrun := run_buildSlice (P := P) w t e len vals.toArray _ ie z hd hie hz (by omega) hpos (by rw [← hsz] at hfill; exact hfill)
      refine ⟨_, _, hrun, _, h, m, hN, ?_, H.grow ((Below.refl _ w).alloc (Nat.le_refl _) _), Ext.grow ((Below.refl _ w).alloc (Nat.le_refl _) _)⟩
      refine VR.ofRow (fun i es hi => ⟨(hrow.2 i es hi).1, fun j p hj => ?_⟩) hlen.symm (Nat.le_refl _) (fun _ => rfl) (by simp) (fun id b hb => by have := (H.live id b hb).lt; omega)
      obtain ⟨u, hu, hvr⟩ := (hrow.2 i es hi).2 j p hj
      refine ⟨u, ?_, hvr.ext (Ext.grow ((Below.refl _ w).alloc (Nat.le_refl _) _))⟩
      rw [cell_of_row _ _ _ _ _ _ (heap_alloc_new w _)]
      simpa using hu
    · exact hk.elim
  · exact hk.elim
def zeroCells' (z : Value) : List PV := z.cells.toList.map .val
def popMakeSlice (P : Program) (t : TypeId) (l c : Slot) (h : Hp) (N : Slot → Hp → Prop) : Prop :=
  match P.underlying t, l, c with
  | some (.slice e), .sv (.one (.val (.int _ l))), .sv (.one (.val (.int _ c))) => (match szOf P e, zeroOf P e, bytesOf' P e with
    | some sz, some z, some by_ => 0 < sz ∧ z.cells.size = sz ∧ z.cells.all (·.oneCell') = true ∧ 0 ≤ l ∧ l ≤ c ∧ by_ * c ≤ 281474976710656 ∧ c ≤ 9223372036854775807 ∧
      ∀ id, h.lim ≤ id → N (.sv (.one (.own id 0 0 l.toNat))) (h.new id ⟨e, sz, List.replicate l.toNat (zeroCells' z), 0, true⟩)
    | _, _, _ => False)
  | _, _, _ => False
theorem popMakeSlice_ok {t : TypeId} {l c : Slot} {lv cv : Value} (H : HR W0 w h m) (hk : popMakeSlice P t l c h N) (hl : LR w h m l lv) (hc : LR w h m c cv) :
    ∃ v w', (Instr.makeSlice t lv cv).run P w = .ok v w' ∧ OpOut W0 w h m N v w' := by
  unfold popMakeSlice at hk
  split at hk
  · rename_i e kl l kc c hd
    cases hl
    cases hc
    split at hk
    · rename_i sz z by_ hs hz hb
      obtain ⟨h0, hzs, hz1, h1, h2, h3, h4, hN⟩ := hk
      obtain ⟨ie, hie, hsz⟩ := Option.map_eq_some_iff.1 hs
      unfold zeroOf at hz
      unfold bytesOf' at hb
      rw [hie] at hz hb
      simp only [Option.bind_some] at hz
      simp only [Option.map_some, Option.some.injEq] at hb
      subst hb
      have hrun := run_make (P := P) w t e ie z hd hie hz kl kc l c h1 h2 h3 h4
      have hB : Below w.heap.size w (w.alloc (.cells (madeCells z.cells (c.toNat * ie.size)) e)) := (Below.refl _ w).alloc (Nat.le_refl _) _
      have X := HR.born H (Nat.le_refl h.lim) ⟨e, sz, List.replicate l.toNat (zeroCells' z), 0, true⟩ w.heap.size c.toNat hB (Nat.le_refl _)
        ⟨madeCells z.cells (c.toNat * ie.size), (0, 0), h0, heap_alloc_new w _, by rw [size_madeCells, hsz], by simp; omega, by simp [maxLen]; omega, fun _ => rfl, .inl (Nat.le_refl _), fun i es hi => by
          simp only [List.getElem?_replicate] at hi
          split at hi
          · rename_i hil
            obtain rfl := Option.some.inj hi
            refine ⟨by simp [zeroCells', hzs], fun j p hj => ?_⟩
            simp only [zeroCells', List.getElem?_map] at hj
            obtain ⟨u, hu, rfl⟩ := Option.map_eq_some_iff.1 hj
            have hjl : j < sz := by have := (List.getElem?_eq_some_iff.1 hu).1; simp at this; omega
            have hin : i * sz + j < c.toNat * ie.size := by
              rw [hsz]
              have := Nat.mul_le_mul_right sz (show i + 1 ≤ c.toNat by omega)
              rw [Nat.add_mul, Nat.one_mul] at this
              omega
            refine ⟨u, ?_, .val u ?_⟩
            · have hmod : (i * sz + j) % z.cells.size = j := by
                rw [hzs, Nat.mul_comm, Nat.mul_add_mod]
                exact Nat.mod_eq_of_lt hjl
              simp only [madeCells, Array.getElem?_map, Array.getElem?_range, if_pos hin, Option.map_some, hmod]
              have hu' : z.cells[j]? = some u := by simpa using hu
              simp [getElem!_def, hu']
            · exact Array.all_eq_true_iff_forall_mem.1 hz1 u (by have := List.mem_of_getElem? hu; simpa using this)
          · cases hi⟩
      refine ⟨_, _, hrun, _, _, _, hN h.lim (Nat.le_refl _), ?_, X.1, X.2⟩
      refine .own _ _ _ _ _ _ (by simp [Hp.new]) (fun _ _ => Nat.zero_le _) (fun b hb _ => ?_)
      simp only [Hp.new, if_true, Option.some.injEq] at hb
      subst hb
      simp only [Loc.set, if_true, List.length_replicate, Nat.zero_add, Nat.zero_mul, Nat.sub_zero, Nat.zero_le, and_self, implies_true, Nat.le_refl]
    · exact hk.elim
  · exact hk.elim
end
end Go.Pw
namespace Go.Pw
open Go Go.RowKit
def CR (w : World) (h : Hp) (m : Loc) (cur : List Value) (sz : Nat) (es : List (List PV)) : Prop :=
  ∀ (i : Nat) (e : List PV), es[i]? = some e → e.length = sz ∧ ∀ (j : Nat) (p : PV), e[j]? = some p → ∃ v, cur[i * sz + j]? = some v ∧ VR w h m p v
section
variable {P : Program} {W0 w : World} {h : Hp} {m : Loc} {N : Slot → Hp → Prop}
theorem CR.left {cur z : List Value} {sz : Nat} {es : List (List PV)} (H : CR w h m cur sz es) : CR w h m (cur ++ z) sz es := fun i e hi => ⟨(H i e hi).1, fun j p hj => by
  obtain ⟨v, hv, hr⟩ := (H i e hi).2 j p hj
  exact ⟨v, by rw [List.getElem?_append_left (List.getElem?_eq_some_iff.1 hv).1]; exact hv, hr⟩⟩
theorem CR.append {a b : List Value} {sz : Nat} {xs ys : List (List PV)} (A : CR w h m a sz xs) (hl : a.length = xs.length * sz) (B : CR w h m b sz ys) : CR w h m (a ++ b) sz (xs ++ ys) := fun i e hi => by
  rw [List.getElem?_append] at hi
  split at hi
  · exact A.left i e hi
  · rename_i hn
    obtain ⟨h1, h2⟩ := B _ e hi
    refine ⟨h1, fun j p hj => ?_⟩
    obtain ⟨v, hv, hr⟩ := h2 j p hj
    refine ⟨v, ?_, hr⟩
    have e1 : i * sz = xs.length * sz + (i - xs.length) * sz := by rw [← Nat.add_mul]; congr 1; omega
    rw [List.getElem?_append_right (by omega), show i * sz + j - a.length = (i - xs.length) * sz + j by omega]
    exact hv
theorem CR.take {cur : List Value} {sz k : Nat} {es : List (List PV)} (H : CR w h m cur sz es) : CR w h m (cur.take (k * sz)) sz (es.take k) := fun i e hi => by
  rw [List.getElem?_take] at hi
  split at hi
  · rename_i hik
    obtain ⟨h1, h2⟩ := H i e hi
    refine ⟨h1, fun j p hj => ?_⟩
    obtain ⟨v, hv, hr⟩ := h2 j p hj
    refine ⟨v, ?_, hr⟩
    have hj' : j < sz := by have := (List.getElem?_eq_some_iff.1 hj).1; omega
    have := Nat.mul_le_mul_right sz (show i + 1 ≤ k by omega)
    rw [Nat.add_mul, Nat.one_mul] at this
    rw [List.getElem?_take, if_pos (by omega)]
    exact hv
  · cases hi
theorem RowAt.cr {g off sz : Nat} {xs : List (List PV)} (H : RowAt w h m g off sz xs) :
    ∃ cs : List Value, cs.length = xs.length * sz ∧ (∀ (k : Nat) (u : Value), cs[k]? = some u → w.cell? ((⟨g, off, none⟩ : Addr).add k) = some u) ∧ (∀ u ∈ cs, u.oneCell' = true) ∧ CR w h m cs sz xs := by
  obtain ⟨cs, h1, h2, h3, h4⟩ := H.list
  exact ⟨cs, h1, fun k u hk => by rw [addr_add]; exact h2 k u hk, h3, fun i e hi => ⟨(H i e hi).1, fun j p hj => h4 i e j p hi hj⟩⟩
def appendLim (n by_ : Nat) : Prop := n ≤ 9223372036854775807 ∧ n * by_ ≤ 140737488355328
theorem below_drew_alloc (w : World) (o : Obj) : Below w.heap.size w (w.drew.alloc o) := (Below.refl _ w).drew.alloc (Nat.le_refl _) o
theorem heap_drew_alloc (w : World) (o : Obj) : (w.drew.alloc o).heap[w.heap.size]? = some o := heap_alloc_new w.drew o
def popAppend (P : Program) (t : TypeId) (s x : Slot) (h : Hp) (N : Slot → Hp → Prop) : Prop :=
  match P.underlying t with
  | some (.slice e) => (match szOf P e, bytesOf' P e, zeroOf P e, srcOf h x with
    | some sz, some by_, some z, some (sz', ys) => 0 < sz ∧ z.cells.size = sz ∧ (ys = [] ∨ sz' = sz) ∧
      (match s with
      | .sv (.one (.val (.slice none 0 0))) => appendLim ys.length by_ ∧ (ys = [] → N s h) ∧ (ys ≠ [] → ∀ id, h.lim ≤ id → N (.sv (.one (.own id 0 0 ys.length))) (h.new id ⟨e, sz, ys, 0, true⟩))
      | .sv (.one (.ro true sz2 xs)) => (xs = [] ∨ sz2 = sz) ∧ appendLim (xs.length + ys.length) by_ ∧ (ys = [] → N s h) ∧ (ys ≠ [] → ∀ id, h.lim ≤ id → N (.sv (.one (.own id 0 0 (xs.length + ys.length)))) (h.new id ⟨e, sz, xs ++ ys, 0, true⟩))
      | .sv (.one (.own id ver 0 len)) => (match h.blk id with
        | some b => b.ver = ver ∧ b.plain = true ∧ b.ty = e ∧ b.sz = sz ∧ appendLim (len + ys.length) by_ ∧
            N (.sv (.one (.own id (ver + 1) 0 (len + ys.length)))) (h.set id { b with es := b.es.take len ++ ys, ver := ver + 1 })
        | none => False)
      | _ => False)
    | _, _, _, _ => False)
  | _ => False
theorem run_append_none {t ty e : TypeId} {sz : Nat} (hd : P.underlying t = some (.slice e)) (hs : szOf P e = some sz) (ba : Option Addr) (n c : Nat) (hc : n ≤ c) (ad : Option Addr) (c' : Nat) :
    (Builtin.append_ #[t, t] ty #[.slice ba n c, .slice ad 0 c']).run P w = .ok (.slice ba n c) w := by
  obtain ⟨i, hi, hsz⟩ := Option.map_eq_some_iff.1 hs
  have hf : (Builtin.firstCells sz 0 (.slice ad 0 c')).run P w = .ok #[] w := by
    cases ad <;> simp [Builtin.firstCells, loadCells, loadCellsFrom]
  cases ba <;> simp [Builtin.append_, run_underlying hd, run_sizeOf' hs, Builtin.lenOf, hc, hf, storeCells]
theorem append_born {e : TypeId} {sz n cap : Nat} {z : Value} {all : List Value} {xs : List (List PV)} (H : HR W0 w h m) (h0 : 0 < sz) (hz : z.cells.size = sz) (hl : all.length = n * sz) (hx : xs.length = n) (hn : n ≤ cap) (hcap : cap ≤ maxLen)
    (C : CR w h m all sz xs) {v : Value} (hv : v = .slice (some ⟨w.heap.size, 0, none⟩) n cap) {w' : World} (hw : w' = w.drew.alloc (.cells (all.toArray ++ Builtin.zeroCells z.cells (cap - n)) e))
    (K : ∀ id, h.lim ≤ id → N (.sv (.one (.own id 0 0 n))) (h.new id ⟨e, sz, xs, 0, true⟩)) : OpOut W0 w h m N v w' := by
  subst hv
  subst hw
  have hB := below_drew_alloc w (.cells (all.toArray ++ Builtin.zeroCells z.cells (cap - n)) e)
  have hsize : (all.toArray ++ Builtin.zeroCells z.cells (cap - n)).size = cap * sz := by
    simp only [Array.size_append, List.size_toArray, size_zeroCells, hz, hl, ← Nat.add_mul]
    congr 1
    omega
  have X := HR.born H (Nat.le_refl h.lim) ⟨e, sz, xs, 0, true⟩ w.heap.size cap hB (Nat.le_refl _)
    ⟨_, (0, 0), h0, heap_drew_alloc w _, hsize, by simp only; omega, hcap, fun _ => rfl, .inl (Nat.le_refl _), fun i es hi => ⟨(C i es hi).1, fun j p hj => by
      obtain ⟨u, hu, hr⟩ := (C i es hi).2 j p hj
      refine ⟨u, ?_, hr⟩
      rw [Array.getElem?_append_left (by simpa using (List.getElem?_eq_some_iff.1 hu).1)]
      simpa using hu⟩⟩
  refine ⟨_, _, _, K h.lim (Nat.le_refl _), ?_, X.1, X.2⟩
  refine .own _ _ _ _ _ _ (by simp [Hp.new]) (fun _ _ => Nat.zero_le _) (fun b hb _ => ?_)
  simp only [Hp.new, if_true, Option.some.injEq] at hb
  subst hb
  simp only [Loc.set, if_true, Nat.zero_add, Nat.zero_mul, Nat.sub_zero, Nat.zero_le, and_self, implies_true, and_true]
  omega
theorem popAppend_ok {t ty : TypeId} {s x : Slot} {sv xv : Value} (H : HR W0 w h m) (hk : popAppend P t s x h N) (hs : LR w h m s sv) (hx : LR w h m x xv) :
    ∃ v w', (Builtin.append_ #[t, t] ty #[sv, xv]).run P w = .ok v w' ∧ OpOut W0 w h m N v w' := by
  unfold popAppend at hk
  split at hk
  · rename_i e hd
    split at hk
    · rename_i sz by_ z sz' ys hsz hby hz hsrc
      obtain ⟨h0, hzs, hys, hk⟩ := hk
      obtain ⟨i, hi, hisz⟩ := Option.map_eq_some_iff.1 hsz
      have hiz : i.zero = some z := by unfold zeroOf at hz; rw [hi] at hz; simpa using hz
      have hib : i.bytes = by_ := by unfold bytesOf' at hby; rw [hi] at hby; simpa using hby
      obtain ⟨ad, c', rfl, _, hrow, _⟩ := srcOf_ok H hsrc hx
      split at hk
      · obtain ⟨⟨l1, l2⟩, k1, k2⟩ := hk
        cases hs
        by_cases hy : ys = []
        · subst hy
          exact ⟨_, _, run_append_none hd hsz none 0 0 (Nat.le_refl _) ad c', OpOut.same H (k1 rfl) (.val (.slice none 0 0) rfl)⟩
        · have hpos : 0 < ys.length := List.length_pos_iff.2 hy
          obtain ⟨g, off, rfl, R⟩ := hrow.resolve_left hy
          obtain rfl := hys.resolve_left hy
          obtain ⟨news, n1, n2, n3, n4⟩ := R.cr
          have hrun := run_append_nil (P := P) w t ty e i z hd hi hiz ⟨g, off, none⟩ ys.length c' news (by rw [hisz]; exact n1) n2 hpos (by omega) (by rw [hib]; omega)
          refine ⟨_, _, hrun, append_born (all := news) H h0 hzs n1 rfl (grownCap_ge w _ _ _) (grownCap_le_maxLen w _ _ _ (by unfold maxLen; omega)) n4 rfl rfl (k2 hy)⟩
      · rename_i sz2 xs
        obtain ⟨hxs, ⟨l1, l2⟩, k1, k2⟩ := hk
        obtain ⟨ba, bc, rfl, hbc, hbrow, hbnone⟩ := srcOf_ok (x := .sv (.one (.ro true sz2 xs))) H rfl hs
        have hfull : bc = xs.length := by
          cases hs with
          | ro0 _ _ _ _ hc => simpa using hc rfl
          | ro _ _ _ _ _ _ _ _ hn hc => rw [hc rfl]
        subst hfull
        by_cases hy : ys = []
        · subst hy
          exact ⟨_, _, run_append_none hd hsz ba _ _ (Nat.le_refl _) ad c', OpOut.same H (k1 rfl) hs⟩
        · have hpos : 0 < ys.length := List.length_pos_iff.2 hy
          obtain ⟨g, off, rfl, R⟩ := hrow.resolve_left hy
          obtain rfl := hys.resolve_left hy
          obtain ⟨news, n1, n2, n3, n4⟩ := R.cr
          by_cases hx0 : xs = []
          · subst hx0
            simp only [List.length_nil, Nat.zero_add, List.nil_append] at l1 l2 k2 ⊢
            cases ba with
            | none =>
              have hrun := run_append_nil (P := P) w t ty e i z hd hi hiz ⟨g, off, none⟩ ys.length c' news (by rw [hisz]; exact n1) n2 hpos (by omega) (by rw [hib]; omega)
              refine ⟨_, _, hrun, append_born (all := news) H h0 hzs n1 rfl (grownCap_ge w _ _ _) (grownCap_le_maxLen w _ _ _ (by unfold maxLen; omega)) n4 rfl rfl (k2 hy)⟩
            | some b =>
              have hrun := run_append_grow (P := P) w t ty e i z hd hi hiz b 0 0 [] (by simp) (fun j v hj => by simp at hj) ⟨g, off, none⟩ ys.length c' news (by rw [hisz]; exact n1) n2 (by omega) (by omega) (by rw [hib]; exact growslice_fits (by omega) (by simpa using l2))
              simp only [Nat.zero_add] at hrun
              refine ⟨_, _, hrun, append_born (all := news) H h0 hzs n1 rfl (grownCap_ge w _ _ _) (grownCap_le_maxLen w _ _ _ (by unfold maxLen; omega)) n4 rfl (by simp) (k2 hy)⟩
          · obtain ⟨g2, off2, rfl, R2⟩ := hbrow.resolve_left hx0
            obtain rfl := hxs.resolve_left hx0
            obtain ⟨olds, o1, o2, o3, o4⟩ := R2.cr
            have hrun := run_append_grow (P := P) w t ty e i z hd hi hiz ⟨g2, off2, none⟩ xs.length xs.length olds (by rw [hisz]; exact o1) o2 ⟨g, off, none⟩ ys.length c' news (by rw [hisz]; exact n1) n2 (by omega) (by omega) (by rw [hib]; exact growslice_fits (by omega) l2)
            refine ⟨_, _, hrun, append_born (all := olds ++ news) H h0 hzs (by rw [List.length_append, o1, n1, Nat.add_mul]) (by simp) (grownCap_ge w _ _ _) (grownCap_le_maxLen w _ _ _ (by unfold maxLen; omega)) (o4.append o1 n4) rfl (by simp) (k2 hy)⟩
      · rename_i id ver len
        split at hk
        · rename_i b hb
          obtain ⟨hver, hpl, hty, hbsz, ⟨l1, l2⟩, hN⟩ := hk
          cases hs with
          | own _ _ _ _ sa sc hid hv hb' =>
            obtain ⟨q1, q2, q3⟩ := hb' b hb hver
            obtain ⟨rfl, rfl⟩ := q3 (.inr rfl)
            obtain ⟨_, cur, fr, hg, hcur, hes, hcap, hfr0, hfr, hc⟩ := H.live id b hb
            obtain rfl := hfr0 hpl
            subst hty
            subst hbsz
            simp only [Nat.zero_mul, Nat.sub_zero, Nat.zero_add] at *
            have hlen : (b.es.take len).length = len := by simp; omega
            have C : CR w h m cur.toList b.sz b.es := fun i e hi => ⟨(hc i e hi).1, fun j p hj => by
              obtain ⟨u, hu, hr⟩ := (hc i e hi).2 j p hj
              exact ⟨u, by simpa using hu, hr⟩⟩
            have hlcur : len * b.sz ≤ cur.size := by rw [hcur]; exact Nat.mul_le_mul_right _ (by omega)
            have result : ∀ (g' cap' : Nat) (w' : World) (cur' : Array Value), (w'.os = w.os ∧ w.drawn ≤ w'.drawn) → w'.tape = w.tape → w'.output = w.output → w.heap.size ≤ w'.heap.size →
                (∀ k, k < w.heap.size → k ≠ (m id).1 → w'.heap[k]? = w.heap[k]?) → (g' = (m id).1 ∨ w.heap.size ≤ g') → w'.heap[g']? = some (.cells cur' b.ty (0, 0)) → cur'.size = cap' * b.sz → len + ys.length ≤ cap' → cap' ≤ maxLen →
                CR w h m cur'.toList b.sz (b.es.take len ++ ys) → OpOut W0 w h m N (.slice (some ⟨g', 0, none⟩) (len + ys.length) cap') w' := by
              intro g' cap' w' cur' ⟨e1, ed⟩ e2 e3 e4 e5 e6 e7 e8 e9 e10 e11
              have ed' : Drawn → w.drawn ≤ w'.drawn := fun _ => ed
              have X := HR.upd H hb { b with es := b.es.take len ++ ys, ver := ver + 1 } g' cap' e1 e2 e3 e4 e5 e6 (by simp only; omega) (fun e => by simp only at e; omega)
                ⟨cur', (0, 0), h0, e7, e8, by simp only [List.length_append, hlen]; omega, e10, fun _ => rfl, .inl (Nat.le_refl _), fun i es hi => ⟨(e11 i es hi).1, fun j p hj => by
                  obtain ⟨u, hu, hr⟩ := (e11 i es hi).2 j p hj
                  exact ⟨u, by simpa using hu, hr⟩⟩⟩
              refine ⟨_, _, _, hN, ?_, X.1, X.2⟩
              refine .own _ _ _ _ _ _ hid (fun b2 hb2 => ?_) (fun b2 hb2 _ => ?_)
              · simp only [Hp.set, if_true, Option.some.injEq] at hb2
                subst hb2
                exact Nat.le_refl _
              · simp only [Hp.set, if_true, Option.some.injEq] at hb2
                subst hb2
                simp only [Loc.set, if_true, List.length_append, hlen, Nat.zero_add, Nat.zero_mul, Nat.sub_zero, Nat.zero_le, and_self, implies_true, Nat.le_refl]
            by_cases hy : ys = []
            · subst hy
              refine ⟨_, _, run_append_none hd hsz _ len _ (by omega) ad c', ?_⟩
              have := result (m id).1 (m id).2 w cur ⟨rfl, Nat.le_refl _⟩ rfl rfl (Nat.le_refl _) (fun _ _ _ => rfl) (.inl rfl) hg hcur (by simp; omega) hcap (by simpa using (C.take (k := len)).left (z := cur.toList.drop (len * b.sz)))
              simpa using this
            · have hpos : 0 < ys.length := List.length_pos_iff.2 hy
              obtain ⟨g, off, rfl, R⟩ := hrow.resolve_left hy
              obtain rfl := hys.resolve_left hy
              obtain ⟨news, n1, n2, n3, n4⟩ := R.cr
              have C2 : CR w h m (cur.toList.take (len * b.sz) ++ news) b.sz (b.es.take len ++ ys) := (C.take (k := len)).append (by rw [hlen, List.length_take, Array.length_toList]; omega) n4
              by_cases hroom : len + ys.length ≤ (m id).2
              · have hfit : len * b.sz + news.length ≤ cur.size := by rw [n1, hcur, ← Nat.add_mul]; exact Nat.mul_le_mul_right _ hroom
                have hrun := run_append_room (P := P) w t ty b.ty i hd hi (m id).1 len (m id).2 cur hg ⟨g, off, none⟩ ys.length c' news (by rw [hisz]; exact n1) n2 n3 hroom (by rw [hisz]; exact hfit)
                rw [hisz] at hrun
                refine ⟨_, _, hrun, result (m id).1 (m id).2 _ _ ⟨rfl, Nat.le_refl _⟩ rfl rfl (by simp) (fun k _ hk => setRow_other w _ k _ hk) (.inl rfl) (setRow_heap w _ cur _ b.ty _ hg) ?_ hroom hcap ?_⟩
                · simp only [List.size_toArray, List.length_append, List.length_take, List.length_drop, Array.length_toList]
                  omega
                · exact C2.left
              · have hrun := run_append_grow (P := P) w t ty b.ty i z hd hi hiz ⟨(m id).1, 0, none⟩ len (m id).2 (cur.toList.take (len * b.sz)) (by rw [hisz]; simp; omega) (fun j v hj => by
                    rw [addr_add, Nat.zero_add, cell_of_row w _ _ cur b.ty _ hg]
                    rw [List.getElem?_take] at hj
                    split at hj
                    · simpa using hj
                    · cases hj) ⟨g, off, none⟩ ys.length c' news (by rw [hisz]; exact n1) n2 (by omega) (by omega) (by rw [hib]; exact growslice_fits (by omega) l2)
                have hge := grownCap_ge w (len + ys.length) (m id).2 b.ty
                have hB := below_drew_alloc w (.cells ((cur.toList.take (len * b.sz)).toArray ++ news.toArray ++ Builtin.zeroCells z.cells (grownCap w (len + ys.length) (m id).2 b.ty - (len + ys.length))) b.ty)
                refine ⟨_, _, hrun, result w.heap.size _ _ _ ⟨rfl, Nat.le_succ _⟩ rfl rfl hB.size (fun k hk _ => hB.block k hk) (.inr (Nat.le_refl _)) (heap_drew_alloc w _) ?_ hge (grownCap_le_maxLen w _ _ _ (by unfold maxLen; omega)) ?_⟩
                · simp only [Array.size_append, List.size_toArray, size_zeroCells, hzs, n1, List.length_take, Array.length_toList, Nat.min_eq_left hlcur, ← Nat.add_mul]
                  congr 1
                  omega
                · simp only [Array.toList_append]
                  exact C2.left
        · exact hk.elim
      · exact hk.elim
    · exact hk.elim
  · exact hk.elim
abbrev byteCell0 (b : UInt8) : List PV := [.val (.int .u8 b.toNat)]
def popAppendStr (P : Program) (t : TypeId) (s x : Slot) (h : Hp) (N : Slot → Hp → Prop) : Prop :=
  match x with
  | .sv (.one (.val (.string q))) =>
    (match P.underlying t with
    | some (.slice e) => (match szOf P e, bytesOf' P e, zeroOf P e with
      | some sz, some by_, some z => sz = 1 ∧ z.cells.size = 1 ∧
        (match s with
        | .sv (.one (.val (.slice none 0 0))) => appendLim q.size by_ ∧ (q.size = 0 → N s h) ∧ (q.size ≠ 0 → ∀ id, h.lim ≤ id → N (.sv (.one (.own id 0 0 q.size))) (h.new id ⟨e, 1, q.data.toList.map byteCell0, 0, true⟩))
        | .sv (.one (.own id ver 0 len)) => (match h.blk id with
          | some b => b.ver = ver ∧ b.plain = true ∧ b.ty = e ∧ b.sz = 1 ∧ appendLim (len + q.size) by_ ∧
              N (.sv (.one (.own id (ver + 1) 0 (len + q.size)))) (h.set id { b with es := b.es.take len ++ q.data.toList.map byteCell0, ver := ver + 1 })
          | none => False)
        | _ => False)
      | _, _, _ => False)
    | _ => False)
  | _ => False
theorem strCells_cr (q : ByteArray) : CR w h m (Lib.strCells q) 1 (q.data.toList.map byteCell0) := fun i e hi => by
  simp only [List.getElem?_map] at hi
  obtain ⟨b, hb, rfl⟩ := Option.map_eq_some_iff.1 hi
  refine ⟨rfl, fun j p hj => ?_⟩
  match j, hj with
  | 0, hj =>
    obtain rfl := Option.some.inj hj
    refine ⟨.int .u8 b.toNat, ?_, .val _ rfl⟩
    simp only [Nat.mul_one, Nat.add_zero, Lib.strCells, List.getElem?_map, hb, Option.map_some]
theorem bytes_len (q : ByteArray) : (q.data.toList.map byteCell0).length = q.size := by
  rw [List.length_map, Array.length_toList]; rfl
theorem popAppendStr_ok {t u ty : TypeId} {s x : Slot} {sv xv : Value} (H : HR W0 w h m) (hu : P.underlying u = some .string) (hk : popAppendStr P t s x h N) (hs : LR w h m s sv) (hx : LR w h m x xv) :
    ∃ v w', (Builtin.append_ #[t, u] ty #[sv, xv]).run P w = .ok v w' ∧ OpOut W0 w h m N v w' := by
  unfold popAppendStr at hk
  split at hk
  · rename_i q
    cases hx
    split at hk
    · rename_i e hd
      split at hk
      · rename_i sz by_ z hsz hby hz
        obtain ⟨rfl, hzs, hk⟩ := hk
        obtain ⟨i, hi, hisz⟩ := Option.map_eq_some_iff.1 hsz
        have hiz : i.zero = some z := by unfold zeroOf at hz; rw [hi] at hz; simpa using hz
        have hib : i.bytes = by_ := by unfold bytesOf' at hby; rw [hi] at hby; simpa using hby
        split at hk
        · obtain ⟨⟨l1, l2⟩, k1, k2⟩ := hk
          cases hs
          by_cases hm : q.size = 0
          · refine ⟨.slice none 0 0, w, ?_, OpOut.same H (k1 hm) (.val _ rfl)⟩
            have hf := Lib.run_firstCells_string (P := P) w 1 q
            have hn : Lib.strCells q = [] := List.eq_nil_of_length_eq_zero (by rw [Lib.strCells_length]; exact hm)
            rw [hm, hn] at hf
            simp [Builtin.append_, run_underlying hd, run_underlying hu, sizeOf, typeInfo, hi, hisz, Builtin.lenOf, hm, hf]
          · have hr := run_append_nil_string (P := P) w t u ty e i z hd hu hi hiz q (by omega) (by omega) (by rw [hib]; omega)
            have e1 : (q.data.map fun b => Value.int .u8 b.toNat) = (Lib.strCells q).toArray := by
              apply Array.ext'
              simp [Lib.strCells]
            rw [e1] at hr
            exact ⟨_, _, hr, append_born (all := Lib.strCells q) H (by decide) hzs (by rw [Lib.strCells_length, Nat.mul_one]) (bytes_len q) (grownCap_ge w _ _ _) (grownCap_le_maxLen w _ _ _ (by unfold maxLen; omega)) (strCells_cr q) rfl rfl (k2 hm)⟩
        · rename_i id ver len
          split at hk
          · rename_i b hb
            obtain ⟨hver, hpl, hty, hbsz, ⟨l1, l2⟩, hN⟩ := hk
            cases hs with
            | own _ _ _ _ sa sc hid hv hb' =>
              obtain ⟨q1, q2, q3⟩ := hb' b hb hver
              obtain ⟨rfl, rfl⟩ := q3 (.inr rfl)
              obtain ⟨_, cur, fr, hg, hcur, hes, hcap, hfr0, hfr, hc⟩ := H.live id b hb
              obtain rfl := hfr0 hpl
              subst hty
              simp only [hbsz, Nat.sub_zero, Nat.zero_add, Nat.mul_one] at q1 q2 q3 hcur hc ⊢
              have hlen : (b.es.take len).length = len := by simp; omega
              have C : CR w h m cur.toList 1 b.es := fun i e hi => ⟨(hc i e hi).1, fun j p hj => by
                obtain ⟨u, hu, hr⟩ := (hc i e hi).2 j p hj
                exact ⟨u, by simpa using hu, hr⟩⟩
              have hlcur : len ≤ cur.size := by rw [hcur]; omega
              have result : ∀ (g' cap' : Nat) (w' : World) (cur' : Array Value), (w'.os = w.os ∧ w.drawn ≤ w'.drawn) → w'.tape = w.tape → w'.output = w.output → w.heap.size ≤ w'.heap.size →
                  (∀ k, k < w.heap.size → k ≠ (m id).1 → w'.heap[k]? = w.heap[k]?) → (g' = (m id).1 ∨ w.heap.size ≤ g') → w'.heap[g']? = some (.cells cur' b.ty (0, 0)) → cur'.size = cap' → len + q.size ≤ cap' → cap' ≤ maxLen →
                  CR w h m cur'.toList 1 (b.es.take len ++ q.data.toList.map byteCell0) → OpOut W0 w h m N (.slice (some ⟨g', 0, none⟩) (len + q.size) cap') w' := by
                intro g' cap' w' cur' ⟨e1, ed⟩ e2 e3 e4 e5 e6 e7 e8 e9 e10 e11
                have ed' : Drawn → w.drawn ≤ w'.drawn := fun _ => ed
                have X := HR.upd H hb { b with es := b.es.take len ++ q.data.toList.map byteCell0, ver := ver + 1 } g' cap' e1 e2 e3 e4 e5 e6 (by simp only; omega) (fun e => by simp only at e; omega)
                  ⟨cur', (0, 0), by simp [hbsz], e7, by simp only [hbsz]; omega, by simp only [List.length_append, hlen, bytes_len]; omega, e10, fun _ => rfl, .inl (Nat.le_refl _), fun i es hi => ⟨by have := (e11 i es hi).1; simp only [hbsz]; exact this, fun j p hj => by
                    obtain ⟨u, hu, hr⟩ := (e11 i es hi).2 j p hj
                    simp only [hbsz]
                    exact ⟨u, by simpa using hu, hr⟩⟩⟩
                refine ⟨_, _, _, hN, ?_, X.1, X.2⟩
                refine .own _ _ _ _ _ _ hid (fun b2 hb2 => ?_) (fun b2 hb2 _ => ?_)
                · simp only [Hp.set, if_true, Option.some.injEq] at hb2
                  subst hb2
                  exact Nat.le_refl _
                · simp only [Hp.set, if_true, Option.some.injEq] at hb2
                  subst hb2
                  simp only [Loc.set, if_true, List.length_append, hlen, bytes_len, Nat.zero_add, Nat.zero_mul, Nat.sub_zero, Nat.zero_le, and_self, implies_true, Nat.le_refl]
              have C2 : CR w h m (cur.toList.take len ++ Lib.strCells q) 1 (b.es.take len ++ q.data.toList.map byteCell0) := by
                have c1 := C.take (k := len)
                rw [Nat.mul_one] at c1
                exact c1.append (by rw [hlen, List.length_take, Array.length_toList]; omega) (strCells_cr q)
              by_cases hroom : len + q.size ≤ (m id).2
              · have hrun := Lib.run_append_room_string (P := P) w t u ty b.ty i hd hu hi hisz (m id).1 len (m id).2 cur hg q hroom (by omega)
                refine ⟨_, _, hrun, result (m id).1 (m id).2 _ _ ⟨rfl, Nat.le_refl _⟩ rfl rfl (by simp) (fun k _ hk => setRow_other w _ k _ hk) (.inl rfl) (setRow_heap w _ cur _ b.ty _ hg) ?_ hroom hcap ?_⟩
                · simp only [List.size_toArray, List.length_append, List.length_take, List.length_drop, Array.length_toList, Lib.strCells_length]
                  omega
                · exact C2.left
              · have hrun := Lib.run_append_grow_string (P := P) w t u ty b.ty i z hd hu hi hiz ⟨(m id).1, 0, none⟩ len (m id).2 (cur.toList.take len) (by rw [hisz]; simp; omega) (fun j v hj => by
                    rw [addr_add, Nat.zero_add, cell_of_row w _ _ cur b.ty _ hg]
                    rw [List.getElem?_take] at hj
                    split at hj
                    · simpa using hj
                    · cases hj) q (by omega) (by omega) (by rw [hib]; exact growslice_fits (by omega) l2)
                have hge := grownCap_ge w (len + q.size) (m id).2 b.ty
                have hB := below_drew_alloc w (.cells ((cur.toList.take len).toArray ++ (Lib.strCells q).toArray ++ Builtin.zeroCells z.cells (grownCap w (len + q.size) (m id).2 b.ty - (len + q.size))) b.ty)
                refine ⟨_, _, hrun, result w.heap.size _ _ _ ⟨rfl, Nat.le_succ _⟩ rfl rfl hB.size (fun k hk _ => hB.block k hk) (.inr (Nat.le_refl _)) (heap_drew_alloc w _) ?_ hge (grownCap_le_maxLen w _ _ _ (by unfold maxLen; omega)) ?_⟩
                · simp only [Array.size_append, List.size_toArray, size_zeroCells, hzs, Lib.strCells_length, List.length_take, Array.length_toList, Nat.mul_one]
                  omega
                · simp only [Array.toList_append]
                  exact C2.left
          · exact hk.elim
        · exact hk.elim
      · exact hk.elim
    · exact hk.elim
  · exact hk.elim
end
end Go.Pw
namespace Go.Pw
open Go Go.RowKit
def byteCell (b : UInt8) : List PV := [.val (.int .u8 b.toNat)]
section
variable {P : Program} {W0 w : World} {h : Hp} {m : Loc} {N : Slot → Hp → Prop}
def popConvert (P : Program) (s d : TypeId) (x : Slot) (h : Hp) (N : Slot → Hp → Prop) : Prop :=
  match P.underlying s, P.underlying d, x with
  | some _, some (.int k), .sv (.one (.val (.int _ n))) => N (.sv (.one (.val (.int k (k.wrap n))))) h
  | some _, some .string, .sv (.one (.val (.string t))) => N (.sv (.one (.val (.string t)))) h
  | some _, some .string, .sv (.one (.val (.int _ n))) => N (.sv (.one (.val (.string (Utf8.encode n))))) h
  | some _, some (.slice e), .sv (.one (.val (.string t))) => P.underlying e = some (.int .u8) ∧ t.size ≤ 9223372036854775807 ∧
      ∀ id, h.lim ≤ id → N (.sv (.one (.own id 0 0 t.size))) (h.new id ⟨e, 1, t.data.toList.map byteCell, 0, false⟩)
  | some (.slice e), some .string, y => P.underlying e = some (.int .u8) ∧ ∃ l : List UInt8, (∃ sz, srcOf h y = some (sz, l.map byteCell)) ∧ N (.sv (.one (.val (.string ⟨l.toArray⟩)))) h
  | _, _, _ => False
theorem push_bytes (l : List UInt8) : ∀ s : ByteArray, (l.map fun b => (b.toNat : Int)).foldl (fun r n => r.push (UInt8.ofNat n.toNat)) s = ⟨s.data ++ l.toArray⟩ := by
  induction l with
  | nil => intro s; simp
  | cons b l ih =>
    intro s
    simp only [List.map_cons, List.foldl_cons, ih]
    simp [ByteArray.push]
theorem popConvert_ok {s d : TypeId} {x : Slot} {a : Value} (H : HR W0 w h m) (hk : popConvert P s d x h N) (hx : LR w h m x a) :
    ∃ v w', (convert s d a).run P w = .ok v w' ∧ OpOut W0 w h m N v w' := by
  unfold popConvert at hk
  split at hk
  · rename_i u k k' n hs hd
    cases hx
    refine ⟨_, _, ?_, OpOut.same H hk (.val _ rfl)⟩
    cases u <;> simp only [convert, Sem.run_bind, run_underlying hs, run_underlying hd, Result.andThen_ok] <;> rfl
  · rename_i u t hs hd
    cases hx
    refine ⟨_, _, ?_, OpOut.same H hk (.val _ rfl)⟩
    cases u <;> simp only [convert, Sem.run_bind, run_underlying hs, run_underlying hd, Result.andThen_ok] <;> rfl
  · rename_i u k n hs hd
    cases hx
    exact ⟨_, _, run_convert_int_string w s d k n (by rw [hs]; rfl) hd, OpOut.same H hk (.val _ rfl)⟩
  · rename_i u e t hs hd
    obtain ⟨he, hsz, hN⟩ := hk
    cases hx
    refine ⟨_, _, Lib.run_convert_string_bytes w s d e t hs hd he, ?_⟩
    have hge := grownCap_ge w t.size 0 e
    have hcells : (Lib.bytesCells w e t).size = grownCap w t.size 0 e := by
      simp only [Lib.bytesCells, Array.size_append, Array.size_map, Array.size_replicate]
      have : t.data.size = t.size := rfl
      omega
    have hB : Below w.heap.size w (Lib.bytesWorld w e t) := ⟨⟨rfl, rfl, rfl, by rw [Lib.bytesWorld_size]; omega, fun k hk => Lib.bytesWorld_at_old w e t k hk⟩, fun _ => by unfold Lib.bytesWorld World.freeze; split <;> exact Nat.le_succ _⟩
    have X := HR.born H (Nat.le_refl h.lim) ⟨e, 1, t.data.toList.map byteCell, 0, false⟩ w.heap.size (grownCap w t.size 0 e) hB (Nat.le_refl _)
      ⟨_, _, Nat.one_pos, Lib.bytesWorld_at_new w e t, by rw [hcells, Nat.mul_one], by simpa using hge, grownCap_le_maxLen w _ _ _ (by unfold maxLen; omega), (fun e => by cases e), .inr (Nat.le_refl _), fun i es hi => by
        simp only [List.getElem?_map] at hi
        obtain ⟨b, hb, rfl⟩ := Option.map_eq_some_iff.1 hi
        refine ⟨rfl, fun j p hj => ?_⟩
        cases j with
        | zero =>
          simp only [byteCell, List.getElem?_cons_zero, Option.some.injEq] at hj
          subst hj
          refine ⟨.int .u8 b.toNat, ?_, .val _ rfl⟩
          have hlt : i < t.data.size := by have := (List.getElem?_eq_some_iff.1 hb).1; simpa using this
          simp only [Lib.bytesCells, Nat.mul_one, Nat.add_zero]
          rw [Array.getElem?_append_left (by simpa using hlt), Array.getElem?_map]
          have : t.data[i]? = some b := by simpa using hb
          rw [this]
          rfl
        | succ j => simp [byteCell] at hj⟩
    refine ⟨_, _, _, hN h.lim (Nat.le_refl _), ?_, X.1, X.2⟩
    refine .own _ _ _ _ _ _ (by simp [Hp.new]) (fun _ _ => Nat.zero_le _) (fun b hb _ => ?_)
    simp only [Hp.new, if_true, Option.some.injEq] at hb
    subst hb
    simp only [Loc.set, if_true, List.length_map, Array.length_toList, Nat.zero_add, Nat.zero_mul, Nat.sub_zero, Nat.zero_le, and_self, implies_true, and_true]
    exact Nat.le_refl _
  · rename_i e hs hd _ _
    obtain ⟨he, l, ⟨sz, hsrc⟩, hN⟩ := hk
    obtain ⟨ad, c, rfl, hlc, hrow, hnone⟩ := srcOf_ok H hsrc hx
    refine ⟨.string ⟨l.toArray⟩, w, ?_, OpOut.same H hN (.val _ rfl)⟩
    have run : ∀ (v : Value), (match v with | .slice _ _ _ => True | _ => False) → (convert s d v).run P w = (Conv.bytesToString v).run P w := by
      intro v hv
      cases v <;> first
        | exact hv.elim
        | simp only [convert, Sem.run_bind, run_underlying hs, run_underlying hd, run_underlying he, Result.andThen_ok]
    rw [run _ trivial]
    by_cases hl0 : l = []
    · subst hl0
      cases ad with
      | none => rfl
      | some a =>
        have := run_bytesToString (P := P) w a 0 c [] (by simp [loadCells, loadCellsFrom])
        exact this
    · have hne : l.map byteCell ≠ [] := by simpa using hl0
      obtain ⟨g, off, rfl, R⟩ := hrow.resolve_left hne
      have hsz : sz = 1 := by
        cases l with
        | nil => exact absurd rfl hl0
        | cons b l => have := (R 0 (byteCell b) rfl).1; simpa [byteCell] using this.symm
      subst hsz
      have hload := run_loadCells_list (P := P) w ⟨g, off, none⟩ (l.map fun b => Value.int .u8 b.toNat) (fun j v hj => by
        simp only [List.getElem?_map] at hj
        obtain ⟨b, hb, rfl⟩ := Option.map_eq_some_iff.1 hj
        obtain ⟨_, hc⟩ := R j (byteCell b) (by simp [hb])
        obtain ⟨u, hu, hr⟩ := hc 0 _ rfl
        cases hr
        rw [addr_add]
        simpa using hu)
      have hload' : (loadCells ⟨g, off, none⟩ (l.map byteCell).length).run P w = .ok ((l.map fun b => (b.toNat : Int)).map (Value.int .u8)).toArray w := by
        rw [List.map_map, List.length_map]
        rw [List.length_map] at hload
        exact hload
      rw [run_bytesToString (P := P) w ⟨g, off, none⟩ _ c _ hload', push_bytes]
      congr 3
      show (ByteArray.empty).data ++ l.toArray = l.toArray
      simp
  · exact hk.elim
def placesOf (P : Program) (t : TypeId) : Option (List (Nat × Nat)) :=
  match P.underlying t with
  | some (.struct fs) => fs.toList.mapM fun f => (szOf P f.type).map fun n => (f.offset, n)
  | some (.array n e) => (szOf P e).map fun sz => (List.range n).map fun i => (i * sz, sz)
  | _ => none
def fillP (places : List (Nat × Nat)) : List PV → List (Nat × Slot) → Option (List PV)
  | ps, [] => some ps
  | ps, (i, s) :: rest => match places[i]?, slotCells s with
    | some (off, size), some cs => if cs.length = size ∧ off + size ≤ ps.length then fillP places (splice ps off cs) rest else none
    | _, _ => none
def popBuild (P : Program) (t : TypeId) (parts : List (Nat × Slot)) (N : Slot → Prop) : Prop :=
  match placesOf P t, zeroOf P t with
  | some pl, some z => z.cells.all (·.oneCell') = true ∧ (match fillP pl (zeroCells' z) parts with
    | some ps => N (.sv (.agg ps))
    | none => False)
  | _, _ => False
theorem fill_ok {places : List (Nat × Nat)} {place : Nat → Option (Nat × Nat)} (hp : ∀ i x, places[i]? = some x → place i = some x) :
    ∀ {parts : List (Nat × Slot)} {vals : List (Nat × Value)} {ps ps' : List PV} {cells : Array Value}, fillP places ps parts = some ps' → parts.length = vals.length →
    (∀ (i : Nat) (x : Nat × Slot) (y : Nat × Value), parts[i]? = some x → vals[i]? = some y → x.1 = y.1 ∧ LR w h m x.2 y.2) →
    cells.size = ps.length → (∀ (j : Nat) (p : PV) (u : Value), ps[j]? = some p → cells[j]? = some u → VR w h m p u) →
    ∃ cells', Instr.fill place cells vals = some cells' ∧ cells'.size = ps'.length ∧ ∀ (j : Nat) (p : PV) (u : Value), ps'[j]? = some p → cells'[j]? = some u → VR w h m p u
  | [], vals, ps, ps', cells, hf, hl, _, hsz, hv => by
    obtain rfl : vals = [] := List.eq_nil_of_length_eq_zero (by simpa using hl.symm)
    simp only [fillP, Option.some.injEq] at hf
    subst hf
    exact ⟨cells, rfl, hsz, hv⟩
  | (i, s) :: parts, [], ps, ps', cells, hf, hl, _, hsz, hv => by simp at hl
  | (i, s) :: parts, (i', v) :: vals, ps, ps', cells, hf, hl, hr, hsz, hv => by
    obtain ⟨e, hsv⟩ := hr 0 _ _ rfl rfl
    simp only at e hsv
    subst e
    simp only [fillP] at hf
    split at hf
    · rename_i off size cs hpl hcs
      split at hf
      · rename_i hcond
        obtain ⟨c1, c2⟩ := hcond
        obtain ⟨us, h1, h2, h3, h4⟩ := slotCells_ok hsv hcs
        obtain ⟨f1, f2⟩ := Great.foldl_set off us 0 cells
        have hfold : (v.cells.zipIdx.foldl (fun cs (c, j) => cs.setIfInBounds (off + j) c) cells) = (us.zipIdx 0).foldl (fun cs (x : Value × Nat) => cs.setIfInBounds (off + x.2) x.1) cells := by
          rw [h1, ← Array.foldl_toList]
          simp
        have hspl := splice_length ps cs off (by omega)
        obtain ⟨cells', g1, g2, g3⟩ := fill_ok hp (cells := (us.zipIdx 0).foldl (fun cs (x : Value × Nat) => cs.setIfInBounds (off + x.2) x.1) cells) hf (by simpa using hl) (fun k x y hx hy => hr (k + 1) x y (by simpa using hx) (by simpa using hy))
          (by rw [f1, hspl]; exact hsz) (fun j p u hj hu => by
            rw [splice_get _ _ _ (by omega)] at hj
            rw [f2] at hu
            simp only [Nat.add_zero] at hu
            by_cases j1 : j < off
            · rw [if_pos j1] at hj
              rw [if_neg (by omega)] at hu
              exact hv j p u hj hu
            · rw [if_neg j1] at hj
              by_cases j2 : j < off + cs.length
              · rw [if_pos j2] at hj
                rw [if_pos ⟨by omega, by omega, by omega⟩] at hu
                exact h4 _ p u hj hu
              · rw [if_neg j2] at hj
                rw [if_neg (by omega)] at hu
                exact hv j p u hj hu)
        refine ⟨cells', ?_, g2, g3⟩
        have hvs : v.cells.size = us.length := by rw [h1]; simp
        simp only [Instr.fill, hp _ _ hpl]
        rw [if_neg (by simp only [ne_eq, Bool.or_eq_true, decide_eq_true_eq]; omega), hfold]
        exact g1
      · cases hf
    · cases hf
theorem popBuild_ok {t : TypeId} {parts : List (Nat × Slot)} {vals : List (Nat × Value)} {K : Slot → Prop} (hk : popBuild P t parts K) (hl : parts.length = vals.length)
    (hr : ∀ (i : Nat) (x : Nat × Slot) (y : Nat × Value), parts[i]? = some x → vals[i]? = some y → x.1 = y.1 ∧ LR w h m x.2 y.2) :
    ∃ v r, (Instr.build t vals.toArray).run P w = .ok v w ∧ K r ∧ LR w h m r v := by
  unfold popBuild at hk
  split at hk
  · rename_i pl z hpl hz
    obtain ⟨hz1, hk⟩ := hk
    split at hk
    · rename_i ps hps
      have hzv : ∀ (j : Nat) (p : PV) (u : Value), (zeroCells' z)[j]? = some p → z.cells[j]? = some u → VR w h m p u := fun j p u hj hu => by
        have hu' : z.cells.toList[j]? = some u := by simpa using hu
        simp only [zeroCells', List.getElem?_map, hu', Option.map_some, Option.some.injEq] at hj
        subst hj
        exact .val u (Array.all_eq_true_iff_forall_mem.1 hz1 u (by have := List.mem_of_getElem? hu'; simpa using this))
      have fin : ∀ place : Nat → Option (Nat × Nat), (∀ i x, pl[i]? = some x → place i = some x) → ∃ cells', Instr.fill place z.cells vals = some cells' ∧ ∃ r, K r ∧ LR w h m r (.agg cells') := by
        intro place hp
        obtain ⟨cells', g1, g2, g3⟩ := fill_ok hp (cells := z.cells) hps hl hr (by simp [zeroCells']) hzv
        exact ⟨cells', g1, _, hk, cells'.toList, by simp, by simpa using g2, fun j p u hj hu => g3 j p u hj (by simpa using hu)⟩
      unfold zeroOf at hz
      obtain ⟨it, hit, hzz⟩ := Option.bind_eq_some_iff.1 hz
      unfold placesOf at hpl
      split at hpl
      · rename_i fs hd
        have hpl' : fs.toList.mapM (fun f => (P.info? f.type).map fun i => (f.offset, i.size)) = some pl := by
          rw [← hpl]
          congr 1
          funext f
          simp only [szOf, Option.map_map]
          rfl
        obtain ⟨cells', g1, r, hK, hR⟩ := fin (pl.toArray[·]?) (fun i x hx => by simpa using hx)
        refine ⟨.agg cells', r, run_build w t vals.toArray cells' ?_, hK, hR⟩
        simp only [Program.built, hit, hd, hzz, hpl']
        exact g1
      · rename_i n e hd
        obtain ⟨sz, hs, hpl⟩ := Option.map_eq_some_iff.1 hpl
        obtain ⟨ie, hie, hsz⟩ := Option.map_eq_some_iff.1 hs
        subst hsz
        obtain ⟨cells', g1, r, hK, hR⟩ := fin (fun i => some (i * ie.size, ie.size)) (fun i x hx => by
          rw [← hpl, List.getElem?_map] at hx
          obtain ⟨k, hk', rfl⟩ := Option.map_eq_some_iff.1 hx
          rw [List.getElem?_eq_some_iff] at hk'
          obtain ⟨hlt, rfl⟩ := hk'
          simp)
        refine ⟨.agg cells', r, run_build w t vals.toArray cells' ?_, hK, hR⟩
        simp only [Program.built, hit, hd, hzz, hie]
        exact g1
      · cases hpl
    · exact hk.elim
  · exact hk.elim
end
end Go.Pw
namespace Go.Pw
open Go Go.RowKit
section
variable {P : Program} {W0 w : World} {h : Hp} {m : Loc} {N : Slot → Hp → Prop} {n : Nat} {σ : St} {a : Act}
def Runs (P : Program) (o : Oper) (ρ : Operand → Value) (w : World) (S : Value → World → Prop) : Prop :=
  match (execOp ρ o).run P w with
  | .ok (.value v) w' => S v w'
  | .ok .skip w' => S undef w'
  | .ok (.enter f args) w' => Calls P f args w' fun e w'' => ∃ v, e = .returned v ∧ S v w''
  | _ => False
theorem Runs.wp {o : Oper} {next : Act → World → Prop} {Q : Exit → Act → World → Prop} {S : Value → World → Prop} (H : Runs P o a.eval w S) (hs : ∀ v w', S v w' → next (a.put o.dst v) w') : o.wp P a w next Q := by
  unfold Runs at H
  unfold Oper.wp
  split at H
  · rename_i v w' hr
    rw [hr]
    exact hs _ _ H
  · rename_i w' hr
    rw [hr]
    exact hs _ _ H
  · rename_i f args w' hr
    rw [hr]
    refine H.mono ?_
    rintro e w'' ⟨v, rfl, hS⟩
    exact hs _ _ hS
  · exact H.elim
theorem Runs.value {o : Oper} {ρ : Operand → Value} {S : Value → World → Prop} {v : Value} {w' : World} (hr : (execOp ρ o).run P w = .ok (.value v) w') (H : S v w') : Runs P o ρ w S := by
  unfold Runs
  rw [hr]
  exact H
theorem Runs.skip {o : Oper} {ρ : Operand → Value} {S : Value → World → Prop} {w' : World} (hr : (execOp ρ o).run P w = .ok .skip w') (H : S undef w') : Runs P o ρ w S := by
  unfold Runs
  rw [hr]
  exact H
theorem Runs.enter {o : Oper} {ρ : Operand → Value} {S : Value → World → Prop} {f : FuncId} {args : Array Value} {w' : World} (hr : (execOp ρ o).run P w = .ok (.enter f args) w') (H : Calls P f args w' fun e w'' => ∃ v, e = .returned v ∧ S v w'') : Runs P o ρ w S := by
  unfold Runs
  rw [hr]
  exact H
def popBin (P : Program) (t : TypeId) (op : BinOp) (x y : Slot) (N : Value → Prop) : Prop :=
  match x, y with
  | .sv (.one (.val a)), .sv (.one (.val b)) => binK (P.underlying t) op a b N
  | .sv (.one (.ptr _ _ _ _)), .sv (.one (.val (.pointer none))) => isPtr (P.underlying t) ∧ eqK op false N
  | .sv (.one (.rop _)), .sv (.one (.val (.pointer none))) => isPtr (P.underlying t) ∧ eqK op false N
  | .sv (.one (.ro _ _ xs)), .sv (.one (.val (.slice none 0 0))) => isSl (P.underlying t) ∧ eqK op false N ∧ (xs = [] → eqK op true N)
  | .sv (.one (.own _ _ _ _)), .sv (.one (.val (.slice none 0 0))) => isSl (P.underlying t) ∧ eqK op false N
  | .sv (.agg xs), .sv (.agg ys) => ∃ (us vs : List Value) (r : Bool), xs = us.map .val ∧ ys = vs.map .val ∧ P.eqGuardType P.depth t = false ∧ (∀ w, (Op.equal t (.agg us.toArray) (.agg vs.toArray)).run P w = .ok r w) ∧ eqK op r N
  | _, _ => False
theorem eqGuard_agg {P : Program} {t : TypeId} (hg : P.eqGuardType P.depth t = false) (op : BinOp) (x y : Operand) (a b : Array Value) (w : World) : (eqGuard op t x y (.agg a) (.agg b)).run P w = .ok () w := by
  cases op <;> simp [eqGuard, hg]
theorem agg_vals {w : World} {h : Hp} {m : Loc} {us : List Value} {v : Value} (H : SVR w h m (.agg (us.map .val)) v) : v = .agg us.toArray := by
  obtain ⟨ws, rfl, hl, hw⟩ := H
  have : ws = us := by
    apply List.ext_getElem?
    intro j
    rcases Nat.lt_or_ge j us.length with hj | hj
    · have h2 : j < ws.length := by simp at hl; omega
      have := hw j (.val us[j]) ws[j] (by simp [hj]) (List.getElem?_eq_getElem h2)
      rw [List.getElem?_eq_getElem h2, List.getElem?_eq_getElem hj]
      generalize ws[j] = q at this ⊢
      cases this
      rfl
    · rw [List.getElem?_eq_none hj, List.getElem?_eq_none (by simp at hl; omega)]
  rw [this]
def svs (σ : St) (xs : List Operand) : Option (List SV) := xs.mapM fun x => match σ.eval x with | .sv s => some s | _ => none
def onesOf (σ : St) (xs : List Operand) : Option (List PV) := xs.mapM fun x => match σ.eval x with | .sv (.one p) => some p | _ => none
theorem run_max_int3 {P : Program} {w : World} (ts : Array TypeId) (t : TypeId) (k k' k2 : IntKind) (x y z : Int) : (Builtin.max_ ts t #[.int k x, .int k' y, .int k2 z]).run P w = .ok (.int k (if z > (if y > x then y else x) then z else (if y > x then y else x))) w := by
  simp [Builtin.max_, Builtin.max2]
def popBuiltin (P : Program) (b : Builtin) (ts : List TypeId) (xs : List Slot) (h : Hp) (N : Slot → Hp → Prop) : Prop :=
  match b, ts, xs with
  | .len, [t], [x] => popLen P t x (fun v => N (.sv (.one (.val v))) h)
  | .append, [t, u], [s, x] => if t = u then popAppend P t s x h N else P.underlying u = some .string ∧ popAppendStr P t s x h N
  | .min, _, [.sv (.one (.val (.int k x))), .sv (.one (.val (.int _ y)))] => N (.sv (.one (.val (.int k (if y < x then y else x))))) h
  | .max, _, [.sv (.one (.val (.int k x))), .sv (.one (.val (.int _ y)))] => N (.sv (.one (.val (.int k (if y > x then y else x))))) h
  | .max, _, [.sv (.one (.val (.int k x))), .sv (.one (.val (.int _ y))), .sv (.one (.val (.int _ z)))] => N (.sv (.one (.val (.int k (if z > (if y > x then y else x) then z else (if y > x then y else x)))))) h
  | _, _, _ => False
def methodOf (P : Program) (t : TypeId) (name : String) : Option FuncId :=
  match P.info? t, P.underlying t with
  | some i, some (.pointer _) => (match i.methods.find? (·.name == name) with
    | some m => if m.path.toList.isEmpty then (match m.func with | some (f, true) => some f | _ => none) else none
    | none => none)
  | _, _ => none
theorem run_method {t : TypeId} {name : String} {k : FuncId} (h : methodOf P t name = some k) (n : Nat) (v : Value) (w : World) : (method (n + 1) t v name).run P w = .ok (k, v) w := by
  unfold methodOf at h
  split at h
  · rename_i i e hi hd
    split at h
    · rename_i m hm
      split at h
      · rename_i hp
        split at h
        · rename_i f hf
          obtain rfl := Option.some.inj h
          have hp' : m.path.toList = [] := by simpa using hp
          have h1 : (typeInfo t).run P w = .ok i w := by simp [typeInfo, hi]
          have h3 : (receiverAt t (.val v) true (if m.path.isEmpty then some ((name.splitOn ".").getLastD name) else none)).run P w = .ok v w := by
            simp only [receiverAt, Sem.run_bind, run_underlying hd, Result.andThen_ok]
            rfl
          simp only [method, Sem.run_bind, h1, Result.andThen_ok, hm, hp', follow, Sem.run_pure, hf, h3]
        · cases h
      · cases h
    · cases h
  · cases h
def popCall (P : Program) (W0 : World) (c : Call) (σ : St) (N : Slot → Hp → Prop) : Prop :=
  match c.callee with
  | .value f => (match σ.eval f with
    | .sv (.one (.clo (.func k) caps)) => (match svs σ c.args.toList with
      | some args => PCalls P W0 k (args ++ caps.map .one) σ.hp N
      | none => False)
    | _ => False)
  | .builtin b => popBuiltin P b c.argTypes.toList (c.args.toList.map σ.eval) σ.hp N
  | .invoke recv name => (match σ.eval recv with
    | .sv (.one (.ifc t false [p])) => (match methodOf P t name with
      | some k => (match svs σ c.args.toList with
        | some args => PCalls P W0 k (.one p :: args) σ.hp N
        | none => False)
      | none => False)
    | _ => False)
def popNil (P : Program) (t : TypeId) (op : BinOp) (x : Slot) (N : Value → Prop) : Prop :=
  (∃ ms, P.underlying t = some (.interface ms)) ∧ (match x with
    | .sv (.one (.val .nilIface)) => eqK op true N
    | .sv (.one (.ifc _ _ _)) => eqK op false N
    | .sv (.one .ifn) => eqK op false N
    | _ => False)
def ifcOf (t : TypeId) : Slot → Option PV
  | .sv (.one p) => some (.ifc t false [p])
  | .sv (.agg ps) => some (.ifc t true ps)
  | _ => none
def ifcIn (agg : Bool) (ps : List PV) : Option SV :=
  match agg, ps with
  | true, ps => some (.agg ps)
  | false, [p] => some (.one p)
  | _, _ => none
def notIface : Option TypeDesc → Bool
  | some (.interface _) => false
  | some _ => true
  | none => false
def popAssert (P : Program) (x : Slot) (at_ : TypeId) (ok : Bool) (N : Slot → Prop) : Prop :=
  notIface (P.underlying at_) = true ∧ (match x with
    | .sv (.one (.ifc t agg ps)) =>
      if t = at_ then (match ifcIn agg ps with
        | some s => if ok then N (.tup [s, .one (.val (.bool true))]) else N (.sv s)
        | none => False)
      else ok = true ∧ (match zeroOf P at_ with
        | some z => (match constSlot z with | .sv s => N (.tup [s, .one (.val (.bool false))]) | _ => False)
        | none => False)
    | _ => False)
def mapGet : List (Value × Value) → ByteArray → Option Value
  | [], _ => none
  | (k, v) :: r, s => match k with
    | .string q => if s == q then some v else mapGet r s
    | _ => none
def mapOk (es : List (Value × Value)) : Bool := es.all fun e => (match e.1 with | .string _ => true | _ => false) && e.2.oneCell'
theorem findNow_str (s : ByteArray) : ∀ (l : List MapEntry) (i : Nat), mapOk (l.map fun e => (e.key, e.val)) = true → ∃ r, Instr.findNow .string (.string s) l i = some r ∧ r.map (·.2) = mapGet (l.map fun e => (e.key, e.val)) s
  | [], i, _ => ⟨none, rfl, rfl⟩
  | e :: l, i, h => by
    simp only [List.map_cons, mapOk, List.all_cons, Bool.and_eq_true] at h
    obtain ⟨⟨h1, _⟩, h2⟩ := h
    obtain ⟨k, v, b⟩ := e
    cases k with
    | string q =>
      obtain ⟨r, h3, h4⟩ := findNow_str s l (i + 1) h2
      simp only [Instr.findNow, Instr.sameNow, List.map_cons, mapGet]
      cases hq : s == q with
      | true => exact ⟨_, rfl, by simp⟩
      | false => exact ⟨r, h3, by simpa using h4⟩
    | _ => exact absurd h1 (by simp)
theorem run_checkKey_str {kt : TypeId} (h2 : P.underlying kt = some .string) (b : Bool) (s : ByteArray) (w : World) : (Instr.checkKey b 10000 kt (.string s)).run P w = .ok () w := by
  have h : ∀ n, (Instr.checkKey b (n + 1) kt (.string s)).run P w = .ok () w := fun n => by
    simp only [Instr.checkKey, Sem.run_bind, run_underlying h2, Result.andThen_ok, Sem.run_pure]
  exact h 9999
theorem mapGet_one {s : ByteArray} {v : Value} : ∀ {es : List (Value × Value)}, mapOk es = true → mapGet es s = some v → v.oneCell' = true
  | [], _, h => by cases h
  | (k, u) :: r, h0, h => by
    simp only [mapOk, List.all_cons, Bool.and_eq_true] at h0
    cases k <;> simp only [mapGet] at h <;> first | (cases h; done) | skip
    split at h
    · obtain rfl := Option.some.inj h
      exact h0.1.2
    · exact mapGet_one h0.2 h
def okSlot (ok : Bool) (v : Value) (b : Bool) : Slot := if ok then .tup [.one (.val v), .one (.val (.bool b))] else .sv (.one (.val v))
def popLookup (P : Program) (t : TypeId) (x ix : Slot) (ok : Bool) (N : Slot → Prop) : Prop :=
  ∃ kt et z, P.underlying t = some (.map kt et) ∧ P.underlying kt = some .string ∧ zeroOf P et = some z ∧ z.oneCell' = true ∧
    (match x, ix with
    | .sv (.one (.mp es)), .sv (.one (.val (.string s))) => mapOk es = true ∧ (match mapGet es s with
      | some v => N (okSlot ok v true)
      | none => N (okSlot ok z false))
    | _, _ => False)
theorem okSlot_lr {w : World} {h : Hp} {m : Loc} (ok : Bool) {v : Value} (b : Bool) (hv : v.oneCell' = true) : LR w h m (okSlot ok v b) (if ok then .tuple #[v, .bool b] else v) := by
  cases ok with
  | false => exact .val v hv
  | true =>
    refine ⟨[v, .bool b], rfl, rfl, fun j s u h1 h2 => ?_⟩
    match j, h1, h2 with
    | 0, h1, h2 => obtain rfl := Option.some.inj h1; obtain rfl := Option.some.inj h2; exact .val _ hv
    | 1, h1, h2 => obtain rfl := Option.some.inj h1; obtain rfl := Option.some.inj h2; exact .val _ rfl
theorem popLookup_ok {t : TypeId} {x ix : Slot} {ok : Bool} {a b : Value} {K : Slot → Prop} (hk : popLookup P t x ix ok K) (hx : LR w h m x a) (hi : LR w h m ix b) :
    ∃ v r, (Instr.lookup t a b ok).run P w = .ok v w ∧ K r ∧ LR w h m r v := by
  obtain ⟨kt, et, z, h1, h2, h3, h4, hk⟩ := hk
  split at hk
  · rename_i es s
    cases hi
    cases hx with
    | mp _ g c ents hg hav hh he =>
      subst he
      obtain ⟨hok, hk⟩ := hk
      obtain ⟨r, hr1, hr2⟩ := findNow_str s ents.toList 0 hok
      have hgo : (getObj g).run P w = .ok (.map ents c) w := by simp [getObj, Sem.run, hh]
      have hck := run_checkKey_str (P := P) h2 ents.isEmpty s w
      have hfk : (Instr.findKey kt (.string s) ents.toList).run P w = .ok r w := by
        simp only [Instr.findKey, Sem.run_bind, run_underlying h2, Result.andThen_ok, hr1, Sem.run_pure]
      cases r with
      | none =>
        rw [← hr2] at hk
        refine ⟨_, _, ?_, hk, okSlot_lr ok false h4⟩
        simp only [Instr.lookup, Sem.run_bind, run_underlying h1, Result.andThen_ok, hgo, hck, hfk, run_zeroValue h3, Sem.run_pure]
      | some q =>
        obtain ⟨i, v⟩ := q
        rw [← hr2] at hk
        refine ⟨_, _, ?_, hk, okSlot_lr ok true (mapGet_one hok hr2.symm)⟩
        simp only [Instr.lookup, Sem.run_bind, run_underlying h1, Result.andThen_ok, hgo, hck, hfk, Sem.run_pure]
  · exact hk.elim
def pop (P : Program) (W0 : World) (σ : St) (o : Oper) (N : Slot → Hp → Prop) : Prop :=
  match o.op with
  | .move x => N (σ.eval x) σ.hp
  | .assign x => N (σ.eval x) σ.hp
  | .pick c a b => (match σ.eval c with | .sv (.one (.val (.bool t))) => (t = true → N (σ.eval a) σ.hp) ∧ (t = false → N (σ.eval b) σ.hp) | _ => False)
  | .binOp op t x (.const .nilIface) _ => popNil P t op (σ.eval x) (fun v => N (.sv (.one (.val v))) σ.hp)
  | .binOp op t x y _ => popBin P t op (σ.eval x) (σ.eval y) (fun v => N (.sv (.one (.val v))) σ.hp)
  | .unOp op _ x => (match σ.eval x with | .sv (.one (.val a)) => unK op a (fun v => N (.sv (.one (.val v))) σ.hp) | _ => False)
  | .convert s d x => popConvert P s d (σ.eval x) σ.hp N
  | .load t x => popLoad P W0 t (σ.eval x) σ.hp N
  | .store t x y => popStore P t (σ.eval x) (σ.eval y) σ.hp N
  | .alloc t => popAlloc P t σ.hp N
  | .box t x => popBox t (σ.eval x) σ.hp N ∨ popBoxRo (σ.eval x) σ.hp N
  | .build t parts => popBuild P t (parts.toList.map fun x => (x.1, σ.eval x.2)) (fun s => N s σ.hp)
  | .buildSlice t len parts => if len = 0 then parts.toList = [] ∧ isSl (P.underlying t) ∧ (∃ e sz, P.underlying t = some (.slice e) ∧ szOf P e = some sz ∧ N (.sv (.one (.ro true sz []))) σ.hp) else popBuildSlice P t len (parts.toList.map fun x => (x.1, σ.eval x.2)) (fun s => N s σ.hp)
  | .makeSlice t l c => popMakeSlice P t (σ.eval l) (σ.eval c) σ.hp N
  | .slice t x lo hi none => popSlice P t (σ.eval x) (lo.map σ.eval) (hi.map σ.eval) σ.hp (fun s => N s σ.hp)
  | .fieldAddr t x f => popFieldAddr P t (σ.eval x) f (fun s => N s σ.hp)
  | .field t x f => popField P t (σ.eval x) f (fun s => N s σ.hp)
  | .indexAddr t x ix => popIndexAddr P t (σ.eval x) (σ.eval ix) σ.hp (fun s => N s σ.hp)
  | .index t x ix => popIndex P t (σ.eval x) (σ.eval ix) (fun s => N s σ.hp)
  | .extract x j => (match σ.eval x with | .tup ss => (match ss[j]? with | some s => N (.sv s) σ.hp | none => False) | _ => False)
  | .nilCheck x => (match σ.eval x with
    | .sv (.one (.ptr id ver i o)) => N (.sv (.one (.ptr id ver i o))) σ.hp
    | .sv (.one (.rop cs)) => N (.sv (.one (.rop cs))) σ.hp
    | .sv (.one (.clo (.func k) cs)) => N (.sv (.one (.clo (.func k) cs))) σ.hp
    | .sv (.one (.val (.pointer (some ad)))) => N (.sv (.one (.val (.pointer (some ad))))) σ.hp
    | _ => False)
  | .makeFunc fn first caps => first = #[] ∧ (match onesOf σ caps.toList with | some ps => N (.sv (.one (.clo fn ps))) σ.hp | none => False)
  | .call c => popCall P W0 c σ N
  | .makeMap _ none => N (.sv (.one .any)) σ.hp
  | .makeInterface t x => notIface (P.underlying t) = true ∧ (match ifcOf t (σ.eval x) with | some p => N (.sv (.one p)) σ.hp | none => False)
  | .typeAssert x _ at_ ok => popAssert P (σ.eval x) at_ ok (fun s => N s σ.hp)
  | .lookup t x ix ok => popLookup P t (σ.eval x) (σ.eval ix) ok (fun s => N s σ.hp)
  | _ => False
theorem svs_ok {W0 we : World} {he : Hp} {me : Loc} (R : Rel W0 we he me n σ a w m) : ∀ {xs : List Operand} {args : List SV}, svs σ xs = some args →
    (xs.map a.eval).length = args.length ∧ ∀ (j : Nat) (s : SV) (v : Value), args[j]? = some s → (xs.map a.eval)[j]? = some v → SVR w σ.hp m s v
  | [], args, hs => by
    simp [svs] at hs
    subst hs
    exact ⟨rfl, fun j s v h1 => by simp at h1⟩
  | x :: xs, args, hs => by
    simp only [svs, List.mapM_cons, Option.bind_eq_bind, Option.pure_def] at hs
    obtain ⟨s, h1, hs⟩ := Option.bind_eq_some_iff.1 hs
    obtain ⟨rest, h2, hs⟩ := Option.bind_eq_some_iff.1 hs
    obtain rfl := Option.some.inj hs
    obtain ⟨a1, a2⟩ := svs_ok R (xs := xs) h2
    refine ⟨by simpa using a1, fun j s' v hj hv => ?_⟩
    cases j with
    | zero =>
      simp at hj hv
      subst hj
      subst hv
      have := R.eval x
      split at h1
      · rename_i s0 e
        rw [e] at this
        obtain rfl := Option.some.inj h1
        exact this
      · cases h1
    | succ j => exact a2 j s' v (by simpa using hj) (by simpa using hv)
theorem onesOf_ok {W0 we : World} {he : Hp} {me : Loc} (R : Rel W0 we he me n σ a w m) : ∀ {xs : List Operand} {ps : List PV}, onesOf σ xs = some ps →
    (xs.map a.eval).length = ps.length ∧ ∀ (j : Nat) (p : PV) (v : Value), ps[j]? = some p → (xs.map a.eval)[j]? = some v → VR w σ.hp m p v
  | [], args, hs => by
    simp [onesOf] at hs
    subst hs
    exact ⟨rfl, fun j s v h1 => by simp at h1⟩
  | x :: xs, args, hs => by
    simp only [onesOf, List.mapM_cons, Option.bind_eq_bind, Option.pure_def] at hs
    obtain ⟨s, h1, hs⟩ := Option.bind_eq_some_iff.1 hs
    obtain ⟨rest, h2, hs⟩ := Option.bind_eq_some_iff.1 hs
    obtain rfl := Option.some.inj hs
    obtain ⟨a1, a2⟩ := onesOf_ok R (xs := xs) h2
    refine ⟨by simpa using a1, fun j s' v hj hv => ?_⟩
    cases j with
    | zero =>
      simp at hj hv
      subst hj
      subst hv
      have := R.eval x
      split at h1
      · rename_i s0 e
        rw [e] at this
        obtain rfl := Option.some.inj h1
        exact this
      · cases h1
    | succ j => exact a2 j s' v (by simpa using hj) (by simpa using hv)
theorem parts_ok {W0 we : World} {he : Hp} {me : Loc} (R : Rel W0 we he me n σ a w m) (parts : List (Nat × Operand)) :
    (parts.map fun x => (x.1, σ.eval x.2)).length = (parts.map fun x => (x.1, a.eval x.2)).length ∧
    ∀ (i : Nat) (x : Nat × Slot) (y : Nat × Value), (parts.map fun x => (x.1, σ.eval x.2))[i]? = some x → (parts.map fun x => (x.1, a.eval x.2))[i]? = some y → x.1 = y.1 ∧ LR w σ.hp m x.2 y.2 := by
  refine ⟨by simp, fun i x y hx hy => ?_⟩
  simp only [List.getElem?_map] at hx hy
  cases hp : parts[i]? with
  | none => simp [hp] at hx
  | some p =>
    simp only [hp, Option.map_some, Option.some.injEq] at hx hy
    subst hx
    subst hy
    exact ⟨rfl, R.eval p.2⟩
theorem pop_ok {W0 we : World} {he : Hp} {me : Loc} {o : Oper} (R : Rel W0 we he me n σ a w m) (hk : pop P W0 σ o N) : Runs P o a.eval w (OpOut W0 w σ.hp m N) := by
  unfold pop at hk
  split at hk
  · rename_i x ho
    exact Runs.value (v := a.eval x) (w' := w) (by simp [execOp, ho]) (OpOut.same R.hr hk (R.eval x))
  · rename_i x ho
    exact Runs.value (v := a.eval x) (w' := w) (by simp [execOp, ho]) (OpOut.same R.hr hk (R.eval x))
  · rename_i c x y ho
    split at hk
    · rename_i t hc
      have hcv := R.eval c
      rw [hc] at hcv
      have hv : a.eval c = .bool t := by
        generalize a.eval c = v at hcv
        cases hcv
        rfl
      cases t with
      | true => exact Runs.value (v := a.eval x) (w' := w) (by simp [execOp, ho, hv, asBool]) (OpOut.same R.hr (hk.1 rfl) (R.eval x))
      | false => exact Runs.value (v := a.eval y) (w' := w) (by simp [execOp, ho, hv, asBool]) (OpOut.same R.hr (hk.2 rfl) (R.eval y))
    · exact hk.elim
  · rename_i op t x t2 ho
    have hx := R.eval x
    obtain ⟨⟨ms, hd⟩, hk⟩ := hk
    split at hk
    · rename_i hu
      rw [hu] at hx
      have eu : a.eval x = .nilIface := by generalize a.eval x = q at hx; cases hx; rfl
      cases op <;> simp only [eqK] at hk
      case eql => exact Runs.value (v := .bool true) (w' := w) (by simp only [execOp, ho, eu, show a.eval (.const .nilIface) = .nilIface from rfl, eqGuard, binOp, Sem.run_bind, equal_nilif0 hd, Result.andThen_ok, Bool.or_true, if_true, ite_self, Sem.run_pure] <;> rfl) (OpOut.same R.hr hk (.val _ rfl))
      case neq => exact Runs.value (v := .bool !true) (w' := w) (by simp only [execOp, ho, eu, show a.eval (.const .nilIface) = .nilIface from rfl, eqGuard, binOp, Sem.run_bind, equal_nilif0 hd, Result.andThen_ok, Bool.or_true, if_true, ite_self, Sem.run_pure] <;> rfl) (OpOut.same R.hr hk (.val _ rfl))
    · rename_i te ag ps hu
      rw [hu] at hx
      obtain ⟨te, v, eu⟩ : ∃ te v, a.eval x = .iface te v := by generalize a.eval x = q at hx; cases hx <;> exact ⟨_, _, rfl⟩
      cases op <;> simp only [eqK] at hk
      case eql => exact Runs.value (v := .bool false) (w' := w) (by simp only [execOp, ho, eu, show a.eval (.const .nilIface) = .nilIface from rfl, eqGuard, binOp, Sem.run_bind, equal_nilif hd, Result.andThen_ok, ite_self, Sem.run_pure] <;> rfl) (OpOut.same R.hr hk (.val _ rfl))
      case neq => exact Runs.value (v := .bool !false) (w' := w) (by simp only [execOp, ho, eu, show a.eval (.const .nilIface) = .nilIface from rfl, eqGuard, binOp, Sem.run_bind, equal_nilif hd, Result.andThen_ok, ite_self, Sem.run_pure] <;> rfl) (OpOut.same R.hr hk (.val _ rfl))
    · rename_i hu
      rw [hu] at hx
      obtain ⟨te, v, eu⟩ : ∃ te v, a.eval x = .iface te v := by generalize a.eval x = q at hx; cases hx; exact ⟨_, _, rfl⟩
      cases op <;> simp only [eqK] at hk
      case eql => exact Runs.value (v := .bool false) (w' := w) (by simp only [execOp, ho, eu, show a.eval (.const .nilIface) = .nilIface from rfl, eqGuard, binOp, Sem.run_bind, equal_nilif hd, Result.andThen_ok, ite_self, Sem.run_pure] <;> rfl) (OpOut.same R.hr hk (.val _ rfl))
      case neq => exact Runs.value (v := .bool !false) (w' := w) (by simp only [execOp, ho, eu, show a.eval (.const .nilIface) = .nilIface from rfl, eqGuard, binOp, Sem.run_bind, equal_nilif hd, Result.andThen_ok, ite_self, Sem.run_pure] <;> rfl) (OpOut.same R.hr hk (.val _ rfl))
    · exact hk.elim
  · rename_i op t x y t2 _ ho
    have hx := R.eval x
    have hy := R.eval y
    unfold popBin at hk
    split at hk
    · rename_i u v hu hv
      rw [hu] at hx
      rw [hv] at hy
      have eu : a.eval x = u := by cases hx; rfl
      have ev : a.eval y = v := by cases hy; rfl
      obtain ⟨r, h1, h2, h3⟩ := binK_ok hk
      exact Runs.value (v := r) (w' := w) (by simp only [execOp, ho, eu, ev, Sem.run_bind, eqGuard_ok hk x y w, h3 w, Result.andThen_ok, Sem.run_pure]) (OpOut.same R.hr h1 (.val r h2))
    · rename_i id ver i o' hu hv
      rw [hu] at hx
      rw [hv] at hy
      obtain ⟨hd, hk⟩ := hk
      have ev : a.eval y = .pointer none := by generalize a.eval y = q at hy; cases hy; rfl
      obtain ⟨ad, eu⟩ : ∃ ad, a.eval x = .pointer (some ad) := by generalize a.eval x = q at hx; cases hx; exact ⟨_, rfl⟩
      obtain ⟨r, h1, h2, h3⟩ := ptrNil_ok (P := P) (ad := ad) hd hk x y
      have h3' := h3 w
      exact Runs.value (v := r) (w' := w) (by simp only [execOp, ho, eu, ev, Sem.run_bind, Sem.run_pure] at h3' ⊢; rw [h3']; rfl) (OpOut.same R.hr h1 (.val r h2))
    · rename_i cs hu hv
      rw [hu] at hx
      rw [hv] at hy
      obtain ⟨hd, hk⟩ := hk
      have ev : a.eval y = .pointer none := by generalize a.eval y = q at hy; cases hy; rfl
      obtain ⟨ad, eu⟩ : ∃ ad, a.eval x = .pointer (some ad) := by generalize a.eval x = q at hx; cases hx; exact ⟨_, rfl⟩
      obtain ⟨r, h1, h2, h3⟩ := ptrNil_ok (P := P) (ad := ad) hd hk x y
      have h3' := h3 w
      exact Runs.value (v := r) (w' := w) (by simp only [execOp, ho, eu, ev, Sem.run_bind, Sem.run_pure] at h3' ⊢; rw [h3']; rfl) (OpOut.same R.hr h1 (.val r h2))
    · rename_i f sz xs hu hv
      rw [hu] at hx
      rw [hv] at hy
      obtain ⟨hd, hk0, hk1⟩ := hk
      have ev : a.eval y = .slice none 0 0 := by generalize a.eval y = q at hy; cases hy; rfl
      obtain ⟨ad, k, c, eu, hnn⟩ : ∃ (ad : Option Addr) (k c : Nat), a.eval x = .slice ad k c ∧ (ad = none → xs = []) := by
        generalize a.eval x = q at hx
        cases hx with
        | ro0 _ _ ad c hc => exact ⟨ad, 0, c, rfl, fun _ => rfl⟩
        | ro _ _ _ g off c k vs => exact ⟨_, _, _, rfl, fun h => by cases h⟩
      have hq : eqK op ad.isNone (fun v => N (.sv (.one (.val v))) σ.hp) := by
        cases ad with
        | none => exact hk1 (hnn rfl)
        | some ad => exact hk0
      obtain ⟨r, h1, h2, h3⟩ := slNil_ok (P := P) (n := k) (c := c) hd hq x y
      have h3' := h3 w
      exact Runs.value (v := r) (w' := w) (by simp only [execOp, ho, eu, ev, Sem.run_bind, Sem.run_pure] at h3' ⊢; rw [h3']; rfl) (OpOut.same R.hr h1 (.val r h2))
    · rename_i id ver off len hu hv
      rw [hu] at hx
      rw [hv] at hy
      obtain ⟨hd, hk⟩ := hk
      have ev : a.eval y = .slice none 0 0 := by generalize a.eval y = q at hy; cases hy; rfl
      obtain ⟨ad, k, c, eu⟩ : ∃ (ad : Addr) (k c : Nat), a.eval x = .slice (some ad) k c := by
        generalize a.eval x = q at hx
        cases hx
        exact ⟨_, _, _, rfl⟩
      obtain ⟨r, h1, h2, h3⟩ := slNil_ok (P := P) (p := some ad) (n := k) (c := c) hd hk x y
      have h3' := h3 w
      exact Runs.value (v := r) (w' := w) (by simp only [execOp, ho, eu, ev, Sem.run_bind, Sem.run_pure] at h3' ⊢; rw [h3']; rfl) (OpOut.same R.hr h1 (.val r h2))
    · rename_i xs ys hu hv
      rw [hu] at hx
      rw [hv] at hy
      obtain ⟨us, vs, r, rfl, rfl, hg, he, hk⟩ := hk
      have eu := agg_vals hx
      have ev := agg_vals hy
      have he' := he w
      cases op <;> simp only [eqK] at hk
      case eql => exact Runs.value (v := .bool r) (w' := w) (by simp only [execOp, ho, eu, ev, Sem.run_bind, eqGuard_agg hg, binOp, he', Result.andThen_ok, Sem.run_pure]) (OpOut.same R.hr hk (.val _ rfl))
      case neq => exact Runs.value (v := .bool !r) (w' := w) (by simp only [execOp, ho, eu, ev, Sem.run_bind, eqGuard_agg hg, binOp, he', Result.andThen_ok, Sem.run_pure]) (OpOut.same R.hr hk (.val _ rfl))
    · exact hk.elim
  · rename_i op t x ho
    have hx := R.eval x
    split at hk
    · rename_i u hu
      rw [hu] at hx
      have eu : a.eval x = u := by cases hx; rfl
      obtain ⟨r, h1, h2, h3⟩ := unK_ok (P := P) hk
      exact Runs.value (v := r) (w' := w) (by simp only [execOp, ho, eu, Sem.run_bind, h3 w, Result.andThen_ok, Sem.run_pure]) (OpOut.same R.hr h1 (.val r h2))
    · exact hk.elim
  · rename_i s d x ho
    obtain ⟨v, w', h1, h2⟩ := popConvert_ok (P := P) R.hr hk (R.eval x)
    exact Runs.value (by simp only [execOp, ho, Sem.run_bind, h1, Result.andThen_ok, Sem.run_pure]) h2
  · rename_i t x ho
    obtain ⟨v, h1, h2⟩ := popLoad_ok (P := P) R.hr hk (R.eval x)
    exact Runs.value (by simp only [execOp, ho, Sem.run_bind, h1, Result.andThen_ok, Sem.run_pure]) h2
  · rename_i t x y ho
    obtain ⟨w', h1, h2⟩ := popStore_ok (P := P) R.hr hk (R.eval x) (R.eval y)
    exact Runs.skip (by simp only [execOp, ho, Sem.run_bind, h1, Result.andThen_ok, Sem.run_pure]) h2
  · rename_i t ho
    obtain ⟨v, w', h1, h2⟩ := popAlloc_ok (P := P) R.hr hk
    exact Runs.value (by simp only [execOp, ho, Sem.run_bind, h1, Result.andThen_ok, Sem.run_pure]) h2
  · rename_i t x ho
    rcases hk with hk | hk
    · obtain ⟨v, w', h1, h2⟩ := popBox_ok (P := P) R.hr hk (R.eval x)
      exact Runs.value (by simp only [execOp, ho, Sem.run_bind, h1, Result.andThen_ok, Sem.run_pure]) h2
    · obtain ⟨v, w', h1, h2⟩ := popBoxRo_ok (P := P) (t := t) R.hr hk (R.eval x)
      exact Runs.value (by simp only [execOp, ho, Sem.run_bind, h1, Result.andThen_ok, Sem.run_pure]) h2
  · rename_i t parts ho
    obtain ⟨p1, p2⟩ := parts_ok R parts.toList
    obtain ⟨v, r, h1, h2, h3⟩ := popBuild_ok (P := P) hk p1 p2
    have e : (parts.map fun (x : Nat × Operand) => (x.1, a.eval x.2)) = (parts.toList.map fun x => (x.1, a.eval x.2)).toArray := by cases parts; simp
    exact Runs.value (v := v) (w' := w) (by simp only [execOp, ho, Sem.run_bind, e, h1, Result.andThen_ok, Sem.run_pure]) (OpOut.same R.hr h2 h3)
  · rename_i t len parts ho
    split at hk
    · rename_i h0
      subst h0
      obtain ⟨hp0, _, e, sz, hd, hs, hN⟩ := hk
      have hpa : parts = #[] := by cases parts; simpa using hp0
      subst hpa
      have hrun : (Instr.buildSlice t 0 #[]).run P w = .ok (.slice (some ⟨w.heap.size, 0, none⟩) 0 0) (w.alloc (.cells #[] e)) := by
        simp [Instr.buildSlice, run_underlying hd, run_sizeOf' hs, Instr.fill, newRow, show Array.range 0 = #[] from rfl]
      exact Runs.value (v := .slice (some ⟨w.heap.size, 0, none⟩) 0 0) (w' := w.alloc (.cells #[] e)) (by simp only [execOp, ho, Sem.run_bind, List.map_toArray, List.map_nil]; rw [show ([] : List (Nat × Value)).toArray = #[] from rfl, hrun]; rfl) ⟨_, σ.hp, m, hN, .ro0 _ _ _ _ (fun _ => rfl), R.hr.grow ((Below.refl _ w).alloc (Nat.le_refl _) _), Ext.grow ((Below.refl _ w).alloc (Nat.le_refl _) _)⟩
    · rename_i hne
      obtain ⟨p1, p2⟩ := parts_ok R parts.toList
      obtain ⟨v, w', h1, h2⟩ := popBuildSlice_ok (P := P) R.hr hk p1 p2
      have e : (parts.map fun (x : Nat × Operand) => (x.1, a.eval x.2)) = (parts.toList.map fun x => (x.1, a.eval x.2)).toArray := by cases parts; simp
      exact Runs.value (by simp only [execOp, ho, Sem.run_bind, e, h1, Result.andThen_ok, Sem.run_pure]) h2
  · rename_i t l c ho
    obtain ⟨v, w', h1, h2⟩ := popMakeSlice_ok (P := P) R.hr hk (R.eval l) (R.eval c)
    exact Runs.value (by simp only [execOp, ho, Sem.run_bind, h1, Result.andThen_ok, Sem.run_pure]) h2
  · rename_i t x lo hi ho
    have ex : ∀ (o : Option Operand) (s : Slot), o.map σ.eval = some s → ∃ v, o.map a.eval = some v ∧ LR w σ.hp m s v := fun o s hs => by
      obtain ⟨y, rfl, rfl⟩ := Option.map_eq_some_iff.1 hs
      exact ⟨_, rfl, R.eval y⟩
    have en : ∀ o : Option Operand, o.map σ.eval = none → o.map a.eval = none := fun o hs => by simpa using hs
    obtain ⟨v, r, h1, h2, h3⟩ := popSlice_ok (P := P) R.hr hk (R.eval x) (ex lo) (en lo) (ex hi) (en hi)
    exact Runs.value (v := v) (w' := w) (by simp only [execOp, ho, Sem.run_bind, Option.map_none, h1, Result.andThen_ok, Sem.run_pure]) (OpOut.same R.hr h2 h3)
  · rename_i t x f ho
    obtain ⟨v, r, h1, h2, h3⟩ := popFieldAddr_ok (P := P) hk (R.eval x)
    exact Runs.value (v := v) (w' := w) (by simp only [execOp, ho, Sem.run_bind, h1, Result.andThen_ok, Sem.run_pure]) (OpOut.same R.hr h2 h3)
  · rename_i t x f ho
    obtain ⟨v, r, h1, h2, h3⟩ := popField_ok (P := P) hk (R.eval x)
    exact Runs.value (v := v) (w' := w) (by simp only [execOp, ho, Sem.run_bind, h1, Result.andThen_ok, Sem.run_pure]) (OpOut.same R.hr h2 h3)
  · rename_i t x ix ho
    obtain ⟨v, r, h1, h2, h3⟩ := popIndexAddr_ok (P := P) hk (R.eval x) (R.eval ix)
    exact Runs.value (v := v) (w' := w) (by simp only [execOp, ho, Sem.run_bind, h1, Result.andThen_ok, Sem.run_pure]) (OpOut.same R.hr h2 h3)
  · rename_i t x ix ho
    obtain ⟨v, r, h1, h2, h3⟩ := popIndex_ok (P := P) hk (R.eval x) (R.eval ix)
    exact Runs.value (v := v) (w' := w) (by simp only [execOp, ho, Sem.run_bind, h1, Result.andThen_ok, Sem.run_pure]) (OpOut.same R.hr h2 h3)
  · rename_i x j ho
    have hx := R.eval x
    split at hk
    · rename_i ss hss
      rw [hss] at hx
      split at hk
      · rename_i s hs
        obtain ⟨vs, e, hl, hv⟩ := hx
        have hlt : j < vs.length := by have := (List.getElem?_eq_some_iff.1 hs).1; omega
        exact Runs.value (v := vs[j]) (w' := w) (by simp [execOp, ho, e, Instr.extract, hlt]) (OpOut.same R.hr hk (hv j s vs[j] hs (List.getElem?_eq_getElem hlt)))
      · exact hk.elim
    · exact hk.elim
  · rename_i x ho
    have hx := R.eval x
    split at hk
    · rename_i id ver i o' e
      rw [e] at hx
      obtain ⟨ad, eu⟩ : ∃ ad, a.eval x = .pointer (some ad) := by generalize a.eval x = q at hx; cases hx; exact ⟨_, rfl⟩
      exact Runs.value (v := a.eval x) (w' := w) (by simp [execOp, ho, eu]) (OpOut.same R.hr hk hx)
    · rename_i cs e
      rw [e] at hx
      obtain ⟨ad, eu⟩ : ∃ ad, a.eval x = .pointer (some ad) := by generalize a.eval x = q at hx; cases hx; exact ⟨_, rfl⟩
      exact Runs.value (v := a.eval x) (w' := w) (by simp [execOp, ho, eu]) (OpOut.same R.hr hk hx)
    · rename_i k cs e
      rw [e] at hx
      obtain ⟨vs, eu⟩ : ∃ vs, a.eval x = .func (.func k) #[] vs := by generalize a.eval x = q at hx; cases hx; exact ⟨_, rfl⟩
      exact Runs.value (v := a.eval x) (w' := w) (by simp [execOp, ho, eu]) (OpOut.same R.hr hk hx)
    · rename_i ad e
      rw [e] at hx
      have eu : a.eval x = .pointer (some ad) := by generalize a.eval x = q at hx; cases hx; rfl
      exact Runs.value (v := a.eval x) (w' := w) (by simp [execOp, ho, eu]) (OpOut.same R.hr hk hx)
    · exact hk.elim
  · rename_i fn first caps ho
    obtain ⟨rfl, hk⟩ := hk
    split at hk
    · rename_i ps hps
      obtain ⟨h1, h2⟩ := onesOf_ok R hps
      have e : caps.map a.eval = (caps.toList.map a.eval).toArray := by cases caps; simp
      exact Runs.value (v := .func fn #[] (caps.toList.map a.eval).toArray) (w' := w) (by simp only [execOp, ho, Instr.makeFunc, Sem.run_bind, Sem.run_pure, Result.andThen_ok, ← e]; simp) (OpOut.same R.hr hk (.clo fn ps _ h1 h2))
    · exact hk.elim
  · rename_i c ho
    unfold popCall at hk
    split at hk
    · rename_i f hc
      split at hk
      · rename_i k caps hf
        split at hk
        · rename_i args hargs
          obtain ⟨⟨fn, hfn, hbody, hname⟩, hk⟩ := hk
          have hfv := R.eval f
          rw [hf] at hfv
          obtain ⟨a1, a2⟩ := svs_ok R hargs
          generalize hq : a.eval f = q at hfv
          cases hfv with
          | clo _ _ vs hl hvs =>
            have hall : ∀ (j : Nat) (s : SV) (v : Value), (args ++ caps.map .one)[j]? = some s → (c.args.toList.map a.eval ++ vs)[j]? = some v → SVR w σ.hp m s v := fun j s v hj hv => by
              rw [List.getElem?_append] at hj hv
              rw [a1] at hv
              split at hj
              · rename_i hlt
                rw [if_pos hlt] at hv
                exact a2 j s v hj hv
              · rename_i hlt
                rw [if_neg hlt] at hv
                rw [List.getElem?_map] at hj
                obtain ⟨p, hp, rfl⟩ := Option.map_eq_some_iff.1 hj
                exact hvs _ p v hp hv
            have hcall := hk w m (c.args.toList.map a.eval ++ vs) R.hr (by simp only [List.length_append, List.length_map] at a1 ⊢; omega) hall
            refine Runs.enter (f := k) (args := (c.args.toList.map a.eval ++ vs).toArray) (w' := w) ?_ (hcall.mono ?_)
            · have hargsA : c.args.map a.eval ++ vs.toArray = (c.args.toList.map a.eval ++ vs).toArray := by
                apply Array.ext'
                simp
              have hb : fn.body.isNone = false := by cases hbn : fn.body <;> simp [hbn] at hbody ⊢
              simp only [execOp, ho, resolve, hc, hq, Deferred.ofValue, Sem.run_bind, Sem.run_pure, Result.andThen_ok, invoke, callFunc, run_program, hfn, hname, Bool.false_eq_true, if_false, hb, Array.empty_append, hargsA]
            · rintro e w'' ⟨v, r, h', m', rfl, b1, b2, b3, b4⟩
              exact ⟨v, rfl, r, h', m', b1, b2, b3, b4⟩
        · exact hk.elim
      · exact hk.elim
    · rename_i b hc
      unfold popBuiltin at hk
      split at hk
      · rename_i t x hts hxs
        obtain ⟨y, ey⟩ : ∃ y, c.args.toList = [y] := by
          match hcl : c.args.toList, hxs with
          | [y], _ => exact ⟨y, rfl⟩
          | [], h => simp at h
          | _ :: _ :: _, h => simp at h
        rw [ey] at hxs
        simp only [List.map_cons, List.map_nil, List.cons.injEq, and_true] at hxs
        subst hxs
        obtain ⟨v, h1, h2, h3⟩ := popLen_ok (P := P) (ty := o.type) hk (R.eval y)
        have ea : c.args = #[y] := by rw [← Array.toList_inj, ey]
        have et : c.argTypes = #[t] := by rw [← Array.toList_inj, hts]
        exact Runs.value (v := v) (w' := w) (by simp only [execOp, ho, resolve, hc, Sem.run_bind, Sem.run_pure, Result.andThen_ok, invoke, builtin, ea, et, List.map_toArray, List.map_cons, List.map_nil, h3]) (OpOut.same R.hr h1 (.val v h2))
      · rename_i t u s x hts hxs
        obtain ⟨y, z, ey⟩ : ∃ y z, c.args.toList = [y, z] := by
          match hcl : c.args.toList, hxs with
          | [y, z], _ => exact ⟨y, z, rfl⟩
          | [], h => simp at h
          | [_], h => simp at h
          | _ :: _ :: _ :: _, h => simp at h
        rw [ey] at hxs
        simp only [List.map_cons, List.map_nil, List.cons.injEq, and_true] at hxs
        obtain ⟨rfl, rfl⟩ := hxs
        have ea : c.args = #[y, z] := by rw [← Array.toList_inj, ey]
        have et : c.argTypes = #[t, u] := by rw [← Array.toList_inj, hts]
        split at hk
        · rename_i htu
          subst htu
          obtain ⟨v, w', h1, h2⟩ := popAppend_ok (P := P) (ty := o.type) R.hr hk (R.eval y) (R.eval z)
          exact Runs.value (by simp only [execOp, ho, resolve, hc, Sem.run_bind, Sem.run_pure, Result.andThen_ok, invoke, builtin, ea, et, List.map_toArray, List.map_cons, List.map_nil, h1]) h2
        · obtain ⟨hu, hk⟩ := hk
          obtain ⟨v, w', h1, h2⟩ := popAppendStr_ok (P := P) (ty := o.type) R.hr hu hk (R.eval y) (R.eval z)
          exact Runs.value (by simp only [execOp, ho, resolve, hc, Sem.run_bind, Sem.run_pure, Result.andThen_ok, invoke, builtin, ea, et, List.map_toArray, List.map_cons, List.map_nil, h1]) h2
      · rename_i k x k2 x2 hxs
        obtain ⟨y, z, ey⟩ : ∃ y z, c.args.toList = [y, z] := by
          match hcl : c.args.toList, hxs with
          | [y, z], _ => exact ⟨y, z, rfl⟩
          | [], h => simp at h
          | [_], h => simp at h
          | _ :: _ :: _ :: _, h => simp at h
        rw [ey] at hxs
        simp only [List.map_cons, List.map_nil, List.cons.injEq, and_true] at hxs
        have hy := R.eval y
        have hz := R.eval z
        rw [hxs.1] at hy
        rw [hxs.2] at hz
        have e1 : a.eval y = .int k x := by generalize a.eval y = q at hy; cases hy; rfl
        have e2 : a.eval z = .int k2 x2 := by generalize a.eval z = q at hz; cases hz; rfl
        have ea : c.args = #[y, z] := by rw [← Array.toList_inj, ey]
        exact Runs.value (w' := w) (by simp only [execOp, ho, resolve, hc, Sem.run_bind, Sem.run_pure, Result.andThen_ok, invoke, builtin, ea, List.map_toArray, List.map_cons, List.map_nil, e1, e2, run_min_int2]) (OpOut.same R.hr hk (.val _ rfl))
      · rename_i k x k2 x2 hxs
        obtain ⟨y, z, ey⟩ : ∃ y z, c.args.toList = [y, z] := by
          match hcl : c.args.toList, hxs with
          | [y, z], _ => exact ⟨y, z, rfl⟩
          | [], h => simp at h
          | [_], h => simp at h
          | _ :: _ :: _ :: _, h => simp at h
        rw [ey] at hxs
        simp only [List.map_cons, List.map_nil, List.cons.injEq, and_true] at hxs
        have hy := R.eval y
        have hz := R.eval z
        rw [hxs.1] at hy
        rw [hxs.2] at hz
        have e1 : a.eval y = .int k x := by generalize a.eval y = q at hy; cases hy; rfl
        have e2 : a.eval z = .int k2 x2 := by generalize a.eval z = q at hz; cases hz; rfl
        have ea : c.args = #[y, z] := by rw [← Array.toList_inj, ey]
        exact Runs.value (w' := w) (by simp only [execOp, ho, resolve, hc, Sem.run_bind, Sem.run_pure, Result.andThen_ok, invoke, builtin, ea, List.map_toArray, List.map_cons, List.map_nil, e1, e2, run_max_int2]) (OpOut.same R.hr hk (.val _ rfl))
      · rename_i k x k2 x2 k3 x3 hxs
        obtain ⟨y, z, u, ey⟩ : ∃ y z u, c.args.toList = [y, z, u] := by
          match hcl : c.args.toList, hxs with
          | [y, z, u], _ => exact ⟨y, z, u, rfl⟩
          | [], h => simp at h
          | [_], h => simp at h
          | [_, _], h => simp at h
          | _ :: _ :: _ :: _ :: _, h => simp at h
        rw [ey] at hxs
        simp only [List.map_cons, List.map_nil, List.cons.injEq, and_true] at hxs
        have hy := R.eval y
        have hz := R.eval z
        have hu := R.eval u
        rw [hxs.1] at hy
        rw [hxs.2.1] at hz
        rw [hxs.2.2] at hu
        have e1 : a.eval y = .int k x := by generalize a.eval y = q at hy; cases hy; rfl
        have e2 : a.eval z = .int k2 x2 := by generalize a.eval z = q at hz; cases hz; rfl
        have e3 : a.eval u = .int k3 x3 := by generalize a.eval u = q at hu; cases hu; rfl
        have ea : c.args = #[y, z, u] := by rw [← Array.toList_inj, ey]
        exact Runs.value (w' := w) (by simp only [execOp, ho, resolve, hc, Sem.run_bind, Sem.run_pure, Result.andThen_ok, invoke, builtin, ea, List.map_toArray, List.map_cons, List.map_nil, e1, e2, e3, run_max_int3]) (OpOut.same R.hr hk (.val _ rfl))
      · exact hk.elim
    · rename_i recv name hc
      split at hk
      · rename_i t p hr
        split at hk
        · rename_i k hmk
          split at hk
          · rename_i args hargs
            obtain ⟨⟨fn, hfn, hbody, hname⟩, hk⟩ := hk
            have hrv := R.eval recv
            rw [hr] at hrv
            obtain ⟨a1, a2⟩ := svs_ok R hargs
            generalize hq : a.eval recv = q at hrv
            cases hrv with
            | ifc1 _ _ v hv =>
              have hall : ∀ (j : Nat) (s : SV) (u : Value), (SV.one p :: args)[j]? = some s → (v :: c.args.toList.map a.eval)[j]? = some u → SVR w σ.hp m s u := fun j s u hj hu => by
                cases j with
                | zero => simp at hj hu; subst hj; subst hu; exact hv
                | succ j => exact a2 j s u (by simpa using hj) (by simpa using hu)
              have hcall := hk w m (v :: c.args.toList.map a.eval) R.hr (by simp only [List.length_cons, List.length_map] at a1 ⊢; omega) hall
              refine Runs.enter (f := k) (args := (v :: c.args.toList.map a.eval).toArray) (w' := w) ?_ (hcall.mono ?_)
              · have hargsA : #[v] ++ c.args.map a.eval = (v :: c.args.toList.map a.eval).toArray := by
                  apply Array.ext'
                  simp
                have hex : (#[Value.iface t v] ++ c.args.map a.eval).extract 1 (#[Value.iface t v] ++ c.args.map a.eval).size = c.args.map a.eval := by
                  apply Array.ext'
                  simp
                  exact List.take_of_length_le (by simp)
                have hb : fn.body.isNone = false := by cases hbn : fn.body <;> simp [hbn] at hbody ⊢
                have hm := run_method (P := P) hmk (P.types.size + Made.depth - 1) v w
                have hd0 : 0 < Made.depth := by decide
                have hd1 : P.types.size + Made.depth - 1 + 1 = P.types.size + Made.depth := by omega
                rw [hd1] at hm
                have h0 : (#[Value.iface t v] ++ c.args.map a.eval)[0]? = some (.iface t v) := by
                  rw [Array.getElem?_append_left (by simp)]; rfl
                simp only [execOp, ho, resolve, hc, hq, Sem.run_bind, Sem.run_pure, Result.andThen_ok, invoke, h0, callMethod, run_program, hm, hex, callFunc, hfn, hname, Bool.false_eq_true, if_false, hb, hargsA]
              · rintro e w'' ⟨v, r, h', m', rfl, b1, b2, b3, b4⟩
                exact ⟨v, rfl, r, h', m', b1, b2, b3, b4⟩
          · exact hk.elim
        · exact hk.elim
      · exact hk.elim
  · rename_i t0 ho
    have hB : Below w.heap.size w (w.alloc (.map #[] 0)) := (Below.refl _ w).alloc (Nat.le_refl _) _
    exact Runs.value (v := .map (some w.heap.size)) (w' := w.alloc (.map #[] 0)) (by simp [execOp, ho, Instr.makeMap]) ⟨_, σ.hp, m, hk, .any _ rfl, R.hr.grow hB, Ext.grow hB⟩
  · rename_i t x ho
    obtain ⟨hn, hk⟩ := hk
    have hx := R.eval x
    have hrun : (Instr.makeInterface t (a.eval x)).run P w = .ok (.iface t (a.eval x)) w := by
      obtain ⟨d, hd⟩ : ∃ d, P.underlying t = some d := by
        cases hq : P.underlying t with
        | none => rw [hq] at hn; cases hn
        | some d => exact ⟨d, rfl⟩
      rw [hd] at hn
      cases d <;> first | (simp only [notIface] at hn; cases hn; done) | simp only [Instr.makeInterface, Sem.run_bind, run_underlying hd, Result.andThen_ok] <;> rfl
    split at hk
    · rename_i p hp
      refine Runs.value (v := .iface t (a.eval x)) (w' := w) (by simp only [execOp, ho, Sem.run_bind, hrun, Result.andThen_ok, Sem.run_pure]) (OpOut.same R.hr hk ?_)
      unfold ifcOf at hp
      split at hp
      · rename_i q hq
        obtain rfl := Option.some.inj hp
        rw [hq] at hx
        exact .ifc1 t q _ hx
      · rename_i ps hq
        obtain rfl := Option.some.inj hp
        rw [hq] at hx
        obtain ⟨vs, e, hl, hv⟩ := hx
        rw [e]
        exact .ifcA t ps vs hl hv
      · cases hp
    · exact hk.elim
  · rename_i x xt at_ ok ho
    unfold popAssert at hk
    obtain ⟨hn, hk⟩ := hk
    have hx := R.eval x
    obtain ⟨d, hd⟩ : ∃ d, P.underlying at_ = some d := by
      cases hq : P.underlying at_ with
      | none => rw [hq] at hn; cases hn
      | some d => exact ⟨d, rfl⟩
    rw [hd] at hn
    split at hk
    · rename_i t ag ps hu
      rw [hu] at hx
      obtain ⟨v, eu, hin⟩ : ∃ v, a.eval x = .iface t v ∧ ∀ s, ifcIn ag ps = some s → SVR w σ.hp m s v := by
        generalize a.eval x = q at hx
        cases hx with
        | ifc1 _ p v hv => exact ⟨v, rfl, fun s hs => by simp only [ifcIn] at hs; obtain rfl := Option.some.inj hs; exact hv⟩
        | ifcA _ _ vs hl hvs => exact ⟨_, rfl, fun s hs => by simp only [ifcIn] at hs; obtain rfl := Option.some.inj hs; exact ⟨vs, rfl, hl, hvs⟩⟩
      have hta : (Instr.typeAssert (.iface t v) xt at_ ok).run P w = (if t = at_ then (pure (if ok then .tuple #[v, .bool true] else v) : Sem Value) else if ok then (do pure (.tuple #[← zeroValue at_, .bool false])) else runtimePanic (.typeAssertion (some xt) (some t) at_ "")).run P w := by
        cases d <;> first | (simp only [notIface] at hn; cases hn; done) | (simp only [Instr.typeAssert, Sem.run_bind, run_underlying hd, Result.andThen_ok]; done) | (simp only [Instr.typeAssert, Sem.run_bind, run_underlying hd, Result.andThen_ok]; rfl)
      split at hk
      · rename_i e
        rw [if_pos e] at hta
        split at hk
        · rename_i s hs
          split at hk
          · rename_i hok
            rw [if_pos hok] at hta
            refine Runs.value (v := .tuple #[v, .bool true]) (w' := w) (by simp only [execOp, ho, eu, Sem.run_bind, hta, Sem.run_pure, Result.andThen_ok]) (OpOut.same R.hr hk ?_)
            refine ⟨[v, .bool true], rfl, rfl, fun j s' u h1 h2 => ?_⟩
            match j, h1, h2 with
            | 0, h1, h2 => obtain rfl := Option.some.inj h1; obtain rfl := Option.some.inj h2; exact hin s hs
            | 1, h1, h2 => obtain rfl := Option.some.inj h1; obtain rfl := Option.some.inj h2; exact .val _ rfl
          · rename_i hok
            rw [if_neg hok] at hta
            exact Runs.value (v := v) (w' := w) (by simp only [execOp, ho, eu, Sem.run_bind, hta, Sem.run_pure, Result.andThen_ok]) (OpOut.same R.hr hk (hin s hs))
        · exact hk.elim
      · rename_i e
        rw [if_neg e] at hta
        obtain ⟨hok, hk⟩ := hk
        rw [if_pos hok] at hta
        split at hk
        · rename_i z hz
          split at hk
          · rename_i s hs
            refine Runs.value (v := .tuple #[z, .bool false]) (w' := w) (by simp only [execOp, ho, eu, Sem.run_bind, hta, run_zeroValue hz, Sem.run_pure, Result.andThen_ok]) (OpOut.same R.hr hk ?_)
            have hc := constSlot_ok w σ.hp m z
            rw [hs] at hc
            refine ⟨[z, .bool false], rfl, rfl, fun j s' u h1 h2 => ?_⟩
            match j, h1, h2 with
            | 0, h1, h2 => obtain rfl := Option.some.inj h1; obtain rfl := Option.some.inj h2; exact hc
            | 1, h1, h2 => obtain rfl := Option.some.inj h1; obtain rfl := Option.some.inj h2; exact .val _ rfl
          · exact hk.elim
        · exact hk.elim
    · exact hk.elim
  · rename_i t x ix ok ho
    obtain ⟨v, r, h1, h2, h3⟩ := popLookup_ok (P := P) hk (R.eval x) (R.eval ix)
    exact Runs.value (v := v) (w' := w) (by simp only [execOp, ho, Sem.run_bind, h1, Result.andThen_ok, Sem.run_pure]) (OpOut.same R.hr h2 h3)
  · exact hk.elim
end
end Go.Pw
