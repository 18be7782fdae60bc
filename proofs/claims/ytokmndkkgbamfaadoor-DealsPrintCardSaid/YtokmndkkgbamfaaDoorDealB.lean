import Derived.Test.YtokmndkkgbamfaaDoorDealP
namespace Go.Pw
open Go Go.RowKit Go.Proofs
set_option maxRecDepth 100000
set_option linter.unusedSimpArgs false
set_option linter.unusedVariables false

def HasPow (W0 : World) : Prop := Lib.TabIs Tryd.prog W0 "internal/strconv.uint64pow10" .u64 Lib.pow10Tab
theorem pow_below {W0 w : World} (hb : Below W0.heap.size W0 w) (h : HasPow W0) : Lib.TabIs Tryd.prog w "internal/strconv.uint64pow10" .u64 Lib.pow10Tab := by
  have e : Tryd.prog.globalNamed "internal/strconv.uint64pow10" = some 1 := by kernel_rfl
  unfold HasPow Lib.TabIs World.var? at h
  unfold Lib.TabIs World.var?
  simp only [e, Option.bind_some] at h ⊢
  have hlt : 1 < W0.heap.size := by
    rcases Nat.lt_or_ge 1 W0.heap.size with h' | h'
    · exact h'
    · simp [Array.getElem?_eq_none h'] at h
  rw [hb.block 1 hlt]
  exact h
theorem below_gr (w : World) (k : Nat) (os : Array Obj) : Below w.heap.size w (Go.Sort.grow (w.drewN k) os) :=
  ⟨rfl, rfl, rfl, by show w.heap.size ≤ (w.heap ++ os).size; simp, fun j hj => by show (w.heap ++ os)[j]? = w.heap[j]?; exact Array.getElem?_append_left hj⟩
theorem hasItoa : Has Tryd.prog 17 := ⟨_, Tryd.func17, rfl, by kernel_rfl⟩
theorem itoa_fun (W0 : World) (hp : HasPow W0) (n : Int) (hn : inI64 n) : PFun Tryd.prog W0 17 [.one (pint n)] (.sv (.one (pstr (Lib.itoa n)))) :=
  pfun_below (vals := [.int .i64 n]) hasItoa rfl fun w hb => (Tryd.strconv_Itoa n hn.1 hn.2 w (pow_below hb hp)).mono fun e' w' ⟨h1, k, os, h2⟩ => ⟨h1, h2 ▸ below_gr w k os⟩
theorem has16 : Has Tryd.prog 16 := ⟨_, Tryd.func16, rfl, by kernel_rfl⟩
theorem join_fun (W0 : World) (full : Bool) (xs : List (List UInt8)) (hn : xs.length ≤ 140737488355328) (hj : (Lib.join xs [32]).length ≤ 140737488355328) :
    PFun Tryd.prog W0 16 [.one (.ro full 1 (pstrs xs)), .one (.val (.string ⟨#[32]⟩))] (.sv (.one (pstr (Lib.join xs [32])))) := by
  refine fun h => ⟨has16, fun w m vs R hl hv => ?_⟩
  match vs, hl with
  | [v0, v1], _ =>
    have h0 := hv 0 _ v0 rfl rfl
    have h1 := hv 1 _ v1 rfl rfl
    have e1 : v1 = .string ⟨#[32]⟩ := by cases h1; rfl
    subst e1
    have done : ∀ e w', e = Ending.returned (.string ⟨(Lib.join xs [32]).toArray⟩) → Below w.heap.size w w' → ∃ v r h' m', e = .returned v ∧ (r = Slot.sv (.one (pstr (Lib.join xs [32]))) ∧ Same h h') ∧ LR w' h' m' r v ∧ HR W0 w' h' m' ∧ Ext w h m w' h' m' :=
      fun e w' he hb => ⟨_, _, h, m, he, ⟨rfl, .refl _⟩, .val _ rfl, R.grow hb, Ext.grow hb⟩
    rcases vr_strs h0 with ⟨rfl, a, c, rfl⟩ | ⟨g, off, c, rfl, hg, hc, hcell⟩
    · exact (Tryd.strings_Join_none a c ⟨#[32]⟩ w).mono fun e w' ⟨he, hw⟩ => done e w' (he.trans rfl) (hw ▸ Below.refl' w)
    · have hm : (xs.map fun x => (⟨x.toArray⟩ : ByteArray)).map (·.data.toList) = xs := by
        rw [List.map_map, List.map_congr_left (g := id) (fun x _ => by simp)]
        simp
      have hs : (⟨#[32]⟩ : ByteArray).data.toList = [32] := rfl
      have := Tryd.strings_Join g off c (xs.map fun x => (⟨x.toArray⟩ : ByteArray)) ⟨#[32]⟩ w (fun j x hx => by
        rw [List.getElem?_map] at hx
        obtain ⟨y, hy, rfl⟩ := Option.map_eq_some_iff.1 hx
        exact hcell j y hy) hg (by simpa using hn) (by simpa using hc) (by rw [hm, hs]; exact hj)
      rw [hm, hs, List.length_map] at this
      exact this.mono fun e w' ⟨he, hb⟩ => done e w' he hb

/-- A row that is still the literal that it began as, or one of one's own. -/
def RowL (e : TypeId) (sz : Nat) (h0 hp : Hp) (sl : Slot) (xs : List (List PV)) : Prop := sl = .sv (.one (.ro true sz xs)) ∨ RowIs e sz h0 hp sl xs
section
variable {P : Program} {h0 hp : Hp} {sl : Slot} {xs : List (List PV)} {t e : TypeId} {sz : Nat}
theorem RowL.same {hq : Hp} (O : RowL e sz h0 hp sl xs) (s : Same hp hq) : RowL e sz h0 hq sl xs := by
  rcases O with h | h
  · exact .inl h
  · exact .inr (h.same s)
theorem rowL_app {N : Slot → Hp → Prop} {src : Slot} {sz' : Nat} {ys : List (List PV)} {z : Value} {by_ : Nat} (hb0 : hpOk h0) (ht : P.underlying t = some (.slice e)) (hz : szOf P e = some sz) (hby : bytesOf' P e = some by_) (hze : zeroOf P e = some z) (hzc : z.cells.size = sz) (hpos : 0 < sz)
    (O : RowL e sz h0 hp sl xs) (K : Keeps h0 hp) (hne : ys ≠ []) (hs : srcOf hp src = some (sz', ys)) (hss : ys = [] ∨ sz' = sz) (hl : appendLim (xs.length + ys.length) by_)
    (H : ∀ sl' hp', RowIs e sz h0 hp' sl' (xs ++ ys) → Keeps h0 hp' → N sl' hp') : popAppend P t sl src hp N := by
  rcases O with rfl | O
  · unfold popAppend
    rw [ht]
    simp only [hz, hby, hze, hs]
    refine ⟨hpos, hzc, hss, .inr trivial, hl, fun h => absurd h hne, fun _ id hid => H _ _ (.inr ⟨id, 0, xs ++ ys, by simp, Nat.le_trans K.2 hid, blk_new _ _ _, List.take_length⟩) ?_⟩
    exact ⟨fun j b hj => by
      have hj' := hb0 j b hj
      simp only [Hp.new]
      rw [if_neg (by have := K.2; omega)]
      exact K.1 j b hj, by simp only [Hp.new]; have := K.2; omega⟩
  · exact row_app hb0 ht hz hby hze hzc hpos O K hs hss hl H
end
end Go.Pw
