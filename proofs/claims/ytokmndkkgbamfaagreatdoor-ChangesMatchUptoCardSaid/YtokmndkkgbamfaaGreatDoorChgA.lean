import Derived.Test.YtokmndkkgbamfaaGreatDoorChgO
import Derived.Test.YtokmndkkgbamfaaGreatDoorChgFacts
namespace Go.Pw
open Go Go.RowKit Go.Proofs
set_option maxRecDepth 100000
set_option linter.unusedSimpArgs false
set_option linter.unusedVariables false

structure MarkG where
  path : List UInt8
  size : Int
  time : Int
  sum : List UInt8
abbrev markPV (x : MarkG) : List PV := [pstr x.path, pint x.size, pint x.time, pstr x.sum]
abbrev chgPV (x : Int × List UInt8) : List PV := [pint x.1, pstr x.2]
def markOK (x : MarkG) : Prop := x.path.length ≤ 9223372036854775807
def differB (x y : MarkG) (b : Int) : Bool := ((x.size != y.size) || ((b == 2) && (x.time != y.time))) || ((b == 3) && (x.sum != y.sum))
def rightB (b : Int) : Bool := ((b == 1) || (b == 2)) || (b == 3)
def pairsM (l : List MarkG) : List (MarkG × MarkG) := l.zip l.tail
def ltP (p : MarkG × MarkG) : Bool := decide (ordR p.1.path p.2.path < 0)
def risesB (l : List MarkG) : Bool := (pairsM l).all ltP
theorem pairs_at {l : List MarkG} {j : Nat} {x y : MarkG} (hx : l[j]? = some x) (hy : l[j + 1]? = some y) : (pairsM l)[j]? = some (x, y) := by
  unfold pairsM
  rw [List.getElem?_zip_eq_some]
  exact ⟨hx, by rw [List.getElem?_tail]; exact hy⟩
theorem pairs_len (l : List MarkG) : (pairsM l).length = l.length - 1 := by
  unfold pairsM
  rw [List.length_zip, List.length_tail]
  omega
theorem rises_bad {l : List MarkG} {j : Nat} {x y : MarkG} (hx : l[j]? = some x) (hy : l[j + 1]? = some y) (h : ¬ ordR x.path y.path < 0) : risesB l = false := by
  unfold risesB
  rw [List.all_eq_false]
  exact ⟨(x, y), List.mem_of_getElem? (pairs_at hx hy), by unfold ltP; simpa using h⟩
theorem rises_good {l : List MarkG} (h : ∀ p ∈ pairsM l, ltP p = true) : risesB l = true := List.all_eq_true.2 h
theorem take_nextM {α : Type} {Q : α → Prop} {l : List α} {i : Nat} {x : α} (h1 : ∀ y ∈ l.take i, Q y) (hx : l[i]? = some x) (hq : Q x) : ∀ y ∈ l.take (i + 1), Q y := by
  rw [List.take_add_one, hx]
  simp only [Option.toList_some, List.mem_append, List.mem_singleton]
  rintro y (hy | rfl)
  · exact h1 y hy
  · exact hq
def findM (l : List MarkG) (p : List UInt8) : Int := match l.findIdx? (fun x => x.path == p) with | some k => (k : Int) | none => -1
theorem find_hitM {l : List MarkG} {p : List UInt8} {i : Nat} {x : MarkG} (h1 : ∀ y ∈ l.take i, (y.path == p) = false) (hx : l[i]? = some x) (hq : (x.path == p) = true) : findM l p = (i : Int) := by
  have : l.findIdx? (fun x => x.path == p) = some i := by
    induction l generalizing i with
    | nil => cases hx
    | cons a l ih =>
      cases i with
      | zero =>
        obtain rfl := Option.some.inj hx
        rw [List.findIdx?_cons, hq]; rfl
      | succ i =>
        have h0 := h1 a (by simp)
        rw [List.findIdx?_cons, h0]
        have := ih (i := i) (fun y hy => h1 y (by simp [hy])) hx
        simp [this]
  unfold findM
  rw [this]
theorem find_noneM {l : List MarkG} {p : List UInt8} (h1 : ∀ y ∈ l, (y.path == p) = false) : findM l p = -1 := by
  have : l.findIdx? (fun x => x.path == p) = none := List.findIdx?_eq_none_iff.2 h1
  unfold findM
  rw [this]
def tableI (x y : Int) : Int :=
  if x < 0 ∨ 3 < x ∨ y < 0 ∨ 3 < y then 0
  else (([0, 2, 2, 4, 1, 5, 5, 1, 1, 5, 5, 1, 3, 2, 2, 0] : List Int)[(x * 4 + y).toNat]?).getD 0
theorem nm70 : (Tryz.f70.name == "runtime.NumGoroutine") = false := by kernel_rfl
theorem differ_fun (W0 : World) (x y : MarkG) (b : Int) :
  PFun Tryz.prog W0 70 [.agg (markPV x), .agg (markPV y), .one (pint b)] (.sv (.one (pbool (differB x y b)))) := by
 intro h
 refine pcalls3 (n := 34) Tryz.func70 rfl nm70 rfl fun hb => ?_
 refine pwp_then fun N1 hN1 => ?_
 refine pwp_reg fun R2 hR2 => ?_
 refine pops_to rfl fun M hM => ?_
 simp only [pop, St.eval, constSlot, upd_at, Nat.reduceEqDiff, if_true, if_false, popBox, popBoxRo, slotCells, markPV]
 refine .inr ⟨Nat.succ_pos _, hM _ _ ?_⟩
 clear hM M
 refine pops_to rfl fun M hM => ?_
 simp only [pop, St.eval, constSlot, upd_at, Nat.reduceEqDiff, if_true, if_false, popBox, popBoxRo, slotCells, markPV]
 refine .inr ⟨Nat.succ_pos _, hM _ _ ?_⟩
 clear hM M
 refine pops_mv (.inr rfl) rfl (by simp only [St.eval, constSlot] <;> rfl) ?_
 refine pops_done (hR2 _ ?_)
 clear hR2 R2
 try simp only [thenK, scopeK]
 refine hN1 _ ?_
 clear hN1 N1
 refine pwp_then fun N3 hN3 => ?_
 refine pwp_reg fun R4 hR4 => ?_
 refine pops_to rfl fun M hM => ?_
 simp only [pop, St.eval, constSlot, upd_at, Nat.reduceEqDiff, if_true, if_false, popFieldAddr, fieldOf, List.drop_succ_cons, List.drop_zero, List.getElem?_toArray, List.getElem?_cons_zero, List.getElem?_cons_succ, Tryz.underlying86, sz3, markPV]
 refine ⟨⟨_, rfl⟩, hM _ _ ?_⟩
 clear hM M
 refine pops_to rfl fun M hM => ?_
 simp only [pop, St.eval, constSlot, upd_at, Nat.reduceEqDiff, if_true, if_false, popLoad, loadK, isAggD, List.drop_zero, List.getElem?_toArray, List.getElem?_cons_zero, List.getElem?_cons_succ, Bool.false_eq_true, Tryz.underlying3, sz3, eq_self, true_and, and_true, markPV]
 refine hM _ _ ?_
 clear hM M
 refine pops_to rfl fun M hM => ?_
 simp only [pop, St.eval, constSlot, upd_at, Nat.reduceEqDiff, if_true, if_false, popFieldAddr, fieldOf, List.drop_succ_cons, List.drop_zero, List.getElem?_toArray, List.getElem?_cons_zero, List.getElem?_cons_succ, Tryz.underlying86, sz3, markPV]
 refine ⟨⟨_, rfl⟩, hM _ _ ?_⟩
 clear hM M
 refine pops_to rfl fun M hM => ?_
 simp only [pop, St.eval, constSlot, upd_at, Nat.reduceEqDiff, if_true, if_false, popLoad, loadK, isAggD, List.drop_zero, List.getElem?_toArray, List.getElem?_cons_zero, List.getElem?_cons_succ, Bool.false_eq_true, Tryz.underlying3, sz3, eq_self, true_and, and_true, markPV]
 refine hM _ _ ?_
 clear hM M
 refine pops_to rfl fun M hM => ?_
 simp only [pop, St.eval, constSlot, upd_at, Nat.reduceEqDiff, if_true, if_false, popBin, binK, intK, strK, eqK, Tryz.underlying3, isPtr, eq_self, true_and, and_true, markPV]
 refine hM _ _ ?_
 clear hM M
 refine pops_mv (.inl rfl) rfl (by simp only [St.eval, upd_at, Nat.reduceEqDiff, if_true, if_false, markPV] <;> rfl) ?_
 apply pops_or0 10 12 22 [13, 14, 15, 16, 17, 18, 19, 20, 21] (by simp only [upd_at, Nat.reduceEqDiff, if_true, if_false, markPV] <;> rfl)
 ·skip
  intro g12_0 J5 hJ5
  simp only [List.take_succ_cons, List.take_zero]
  simp only [anyAt_cons, anyAt_nil] at hJ5
  refine pops_mvg (.inl rfl) rfl rfl (by simp only [upd_at, Nat.reduceEqDiff, if_true, if_false, markPV, g12_0]) (by simp only [St.eval, upd_at, Nat.reduceEqDiff, if_true, if_false, markPV, g12_0] <;> rfl) ?_
  refine pops_do rfl rfl (by simp only [upd_at, Nat.reduceEqDiff, if_true, if_false, markPV, g12_0]) fun M hM => ?_
  simp only [pop, St.eval, constSlot, upd_at, Nat.reduceEqDiff, if_true, if_false, popBin, binK, intK, strK, eqK, Tryz.underlying3, isPtr, eq_self, true_and, and_true, markPV, g12_0]
  refine hM _ _ ?_
  clear hM M
  refine pops_mvg (.inl rfl) rfl rfl (by simp only [upd_at, Nat.reduceEqDiff, if_true, if_false, markPV, g12_0]) (by simp only [St.eval, upd_at, Nat.reduceEqDiff, if_true, if_false, markPV, g12_0] <;> rfl) ?_
  apply pops_and0 6 15 21 [16, 17, 18, 19, 20] (by simp only [upd_at, Nat.reduceEqDiff, if_true, if_false, markPV, g12_0] <;> rfl)
  ·skip
   intro g15_1 J6 hJ6
   simp only [List.take_succ_cons, List.take_zero]
   simp only [anyAt_cons, anyAt_nil] at hJ6
   refine pops_do rfl rfl (by simp only [upd_at, Nat.reduceEqDiff, if_true, if_false, markPV, g12_0, g15_1]) fun M hM => ?_
   simp only [pop, St.eval, constSlot, upd_at, Nat.reduceEqDiff, if_true, if_false, popFieldAddr, fieldOf, List.drop_succ_cons, List.drop_zero, List.getElem?_toArray, List.getElem?_cons_zero, List.getElem?_cons_succ, Tryz.underlying86, sz3, markPV, g12_0, g15_1]
   refine ⟨⟨_, rfl⟩, hM _ _ ?_⟩
   clear hM M
   refine pops_do rfl rfl (by simp only [upd_at, Nat.reduceEqDiff, if_true, if_false, markPV, g12_0, g15_1]) fun M hM => ?_
   simp only [pop, St.eval, constSlot, upd_at, Nat.reduceEqDiff, if_true, if_false, popLoad, loadK, isAggD, List.drop_zero, List.getElem?_toArray, List.getElem?_cons_zero, List.getElem?_cons_succ, Bool.false_eq_true, Tryz.underlying3, sz3, eq_self, true_and, and_true, markPV, g12_0, g15_1]
   refine hM _ _ ?_
   clear hM M
   refine pops_do rfl rfl (by simp only [upd_at, Nat.reduceEqDiff, if_true, if_false, markPV, g12_0, g15_1]) fun M hM => ?_
   simp only [pop, St.eval, constSlot, upd_at, Nat.reduceEqDiff, if_true, if_false, popFieldAddr, fieldOf, List.drop_succ_cons, List.drop_zero, List.getElem?_toArray, List.getElem?_cons_zero, List.getElem?_cons_succ, Tryz.underlying86, sz3, markPV, g12_0, g15_1]
   refine ⟨⟨_, rfl⟩, hM _ _ ?_⟩
   clear hM M
   refine pops_do rfl rfl (by simp only [upd_at, Nat.reduceEqDiff, if_true, if_false, markPV, g12_0, g15_1]) fun M hM => ?_
   simp only [pop, St.eval, constSlot, upd_at, Nat.reduceEqDiff, if_true, if_false, popLoad, loadK, isAggD, List.drop_zero, List.getElem?_toArray, List.getElem?_cons_zero, List.getElem?_cons_succ, Bool.false_eq_true, Tryz.underlying3, sz3, eq_self, true_and, and_true, markPV, g12_0, g15_1]
   refine hM _ _ ?_
   clear hM M
   refine pops_do rfl rfl (by simp only [upd_at, Nat.reduceEqDiff, if_true, if_false, markPV, g12_0, g15_1]) fun M hM => ?_
   simp only [pop, St.eval, constSlot, upd_at, Nat.reduceEqDiff, if_true, if_false, popBin, binK, intK, strK, eqK, Tryz.underlying3, isPtr, eq_self, true_and, and_true, markPV, g12_0, g15_1]
   refine hM _ _ ?_
   clear hM M
   refine pops_do rfl rfl (by simp only [upd_at, Nat.reduceEqDiff, if_true, if_false, markPV, g12_0, g15_1]) fun M hM => ?_
   simp only [pop, St.eval, constSlot, upd_at, Nat.reduceEqDiff, if_true, if_false, popIf, true_implies, false_implies, Bool.true_eq_false, Bool.false_eq_true, reduceCtorEq, true_and, and_true, markPV, g12_0, g15_1]
   refine hM _ _ ?_
   clear hM M
   exact pops_done (hJ6 _ (wk_same (wk_any ((wk_any ((wk_any ((wk_any ((wk_any (Wk.refl _ _))))))))))))
  ·skip
   intro g15_1 J6 hJ6
   simp only [List.take_succ_cons, List.take_zero]
   simp only [anyAt_cons, anyAt_nil] at hJ6
   refine pops_off (b := false) rfl rfl (by simp only [upd_at, Nat.reduceEqDiff, if_true, if_false, markPV, g12_0, g15_1]) (by decide) ?_
   refine pops_off (b := false) rfl rfl (by simp only [upd_at, Nat.reduceEqDiff, if_true, if_false, markPV, g12_0, g15_1]) (by decide) ?_
   refine pops_off (b := false) rfl rfl (by simp only [upd_at, Nat.reduceEqDiff, if_true, if_false, markPV, g12_0, g15_1]) (by decide) ?_
   refine pops_off (b := false) rfl rfl (by simp only [upd_at, Nat.reduceEqDiff, if_true, if_false, markPV, g12_0, g15_1]) (by decide) ?_
   refine pops_off (b := false) rfl rfl (by simp only [upd_at, Nat.reduceEqDiff, if_true, if_false, markPV, g12_0, g15_1]) (by decide) ?_
   refine pops_do rfl rfl (by simp only [upd_at, Nat.reduceEqDiff, if_true, if_false, markPV, g12_0, g15_1]) fun M hM => ?_
   simp only [pop, St.eval, constSlot, upd_at, Nat.reduceEqDiff, if_true, if_false, popIf, true_implies, false_implies, Bool.true_eq_false, Bool.false_eq_true, reduceCtorEq, true_and, and_true, markPV, g12_0, g15_1]
   refine hM _ _ ?_
   clear hM M
   exact pops_done (hJ6 _ (wk_same (wk_any ((wk_any ((wk_any ((wk_any ((wk_any (Wk.refl _ _))))))))))))
  simp only [List.drop_succ_cons, List.drop_zero, anyAt_cons, anyAt_nil]
  refine pops_to rfl fun M hM => ?_
  simp only [pop, St.eval, constSlot, upd_at, Nat.reduceEqDiff, if_true, if_false, popIf, true_implies, false_implies, Bool.true_eq_false, Bool.false_eq_true, reduceCtorEq, true_and, and_true, markPV, g12_0]
  refine hM _ _ ?_
  clear hM M
  exact pops_done (hJ5 _ (wk_same (wk_any ((wk_any ((wk_any ((wk_any ((wk_any ((wk_any ((wk_any ((wk_any ((wk_any (Wk.refl _ _))))))))))))))))))))
 ·skip
  intro g12_0 J5 hJ5
  simp only [List.take_succ_cons, List.take_zero]
  simp only [anyAt_cons, anyAt_nil] at hJ5
  refine pops_off (b := true) rfl rfl (by simp only [upd_at, Nat.reduceEqDiff, if_true, if_false, markPV, g12_0]) (by decide) ?_
  refine pops_off (b := true) rfl rfl (by simp only [upd_at, Nat.reduceEqDiff, if_true, if_false, markPV, g12_0]) (by decide) ?_
  refine pops_off (b := true) rfl rfl (by simp only [upd_at, Nat.reduceEqDiff, if_true, if_false, markPV, g12_0]) (by decide) ?_
  refine pops_off0 rfl rfl (by simp only [upd_at, Nat.reduceEqDiff, if_true, if_false, markPV, g12_0]) ?_
  refine pops_off0 rfl rfl (by simp only [upd_at, Nat.reduceEqDiff, if_true, if_false, markPV, g12_0]) ?_
  refine pops_off0 rfl rfl (by simp only [upd_at, Nat.reduceEqDiff, if_true, if_false, markPV, g12_0]) ?_
  refine pops_off0 rfl rfl (by simp only [upd_at, Nat.reduceEqDiff, if_true, if_false, markPV, g12_0]) ?_
  refine pops_off0 rfl rfl (by simp only [upd_at, Nat.reduceEqDiff, if_true, if_false, markPV, g12_0]) ?_
  refine pops_off (b := true) rfl rfl (by simp only [upd_at, Nat.reduceEqDiff, if_true, if_false, markPV, g12_0]) (by decide) ?_
  refine pops_to rfl fun M hM => ?_
  simp only [pop, St.eval, constSlot, upd_at, Nat.reduceEqDiff, if_true, if_false, popIf, true_implies, false_implies, Bool.true_eq_false, Bool.false_eq_true, reduceCtorEq, true_and, and_true, markPV, g12_0]
  refine hM _ _ ?_
  clear hM M
  exact pops_done (hJ5 _ (wk_same (wk_any ((wk_any ((wk_any ((wk_any ((wk_any ((wk_any ((wk_any ((wk_any ((wk_any (Wk.refl _ _))))))))))))))))))))
 simp only [List.drop_succ_cons, List.drop_zero, anyAt_cons, anyAt_nil]
 refine pops_mv (.inl rfl) rfl (by simp only [St.eval, upd_at, Nat.reduceEqDiff, if_true, if_false, markPV] <;> rfl) ?_
 apply pops_or0 10 23 33 [24, 25, 26, 27, 28, 29, 30, 31, 32] (by simp only [upd_at, Nat.reduceEqDiff, if_true, if_false, markPV] <;> rfl)
 ·skip
  intro g23_0 J7 hJ7
  simp only [List.take_succ_cons, List.take_zero]
  simp only [anyAt_cons, anyAt_nil] at hJ7
  refine pops_mvg (.inl rfl) rfl rfl (by simp only [upd_at, Nat.reduceEqDiff, if_true, if_false, markPV, g23_0]) (by simp only [St.eval, upd_at, Nat.reduceEqDiff, if_true, if_false, markPV, g23_0] <;> rfl) ?_
  refine pops_do rfl rfl (by simp only [upd_at, Nat.reduceEqDiff, if_true, if_false, markPV, g23_0]) fun M hM => ?_
  simp only [pop, St.eval, constSlot, upd_at, Nat.reduceEqDiff, if_true, if_false, popBin, binK, intK, strK, eqK, Tryz.underlying3, isPtr, eq_self, true_and, and_true, markPV, g23_0]
  refine hM _ _ ?_
  clear hM M
  refine pops_mvg (.inl rfl) rfl rfl (by simp only [upd_at, Nat.reduceEqDiff, if_true, if_false, markPV, g23_0]) (by simp only [St.eval, upd_at, Nat.reduceEqDiff, if_true, if_false, markPV, g23_0] <;> rfl) ?_
  apply pops_and0 6 26 32 [27, 28, 29, 30, 31] (by simp only [upd_at, Nat.reduceEqDiff, if_true, if_false, markPV, g23_0] <;> rfl)
  ·skip
   intro g26_1 J8 hJ8
   simp only [List.take_succ_cons, List.take_zero]
   simp only [anyAt_cons, anyAt_nil] at hJ8
   refine pops_do rfl rfl (by simp only [upd_at, Nat.reduceEqDiff, if_true, if_false, markPV, g23_0, g26_1]) fun M hM => ?_
   simp only [pop, St.eval, constSlot, upd_at, Nat.reduceEqDiff, if_true, if_false, popFieldAddr, fieldOf, List.drop_succ_cons, List.drop_zero, List.getElem?_toArray, List.getElem?_cons_zero, List.getElem?_cons_succ, Tryz.underlying86, sz9, markPV, g23_0, g26_1]
   refine ⟨⟨_, rfl⟩, hM _ _ ?_⟩
   clear hM M
   refine pops_do rfl rfl (by simp only [upd_at, Nat.reduceEqDiff, if_true, if_false, markPV, g23_0, g26_1]) fun M hM => ?_
   simp only [pop, St.eval, constSlot, upd_at, Nat.reduceEqDiff, if_true, if_false, popLoad, loadK, isAggD, List.drop_zero, List.getElem?_toArray, List.getElem?_cons_zero, List.getElem?_cons_succ, Bool.false_eq_true, Tryz.underlying9, sz9, eq_self, true_and, and_true, markPV, g23_0, g26_1]
   refine hM _ _ ?_
   clear hM M
   refine pops_do rfl rfl (by simp only [upd_at, Nat.reduceEqDiff, if_true, if_false, markPV, g23_0, g26_1]) fun M hM => ?_
   simp only [pop, St.eval, constSlot, upd_at, Nat.reduceEqDiff, if_true, if_false, popFieldAddr, fieldOf, List.drop_succ_cons, List.drop_zero, List.getElem?_toArray, List.getElem?_cons_zero, List.getElem?_cons_succ, Tryz.underlying86, sz9, markPV, g23_0, g26_1]
   refine ⟨⟨_, rfl⟩, hM _ _ ?_⟩
   clear hM M
   refine pops_do rfl rfl (by simp only [upd_at, Nat.reduceEqDiff, if_true, if_false, markPV, g23_0, g26_1]) fun M hM => ?_
   simp only [pop, St.eval, constSlot, upd_at, Nat.reduceEqDiff, if_true, if_false, popLoad, loadK, isAggD, List.drop_zero, List.getElem?_toArray, List.getElem?_cons_zero, List.getElem?_cons_succ, Bool.false_eq_true, Tryz.underlying9, sz9, eq_self, true_and, and_true, markPV, g23_0, g26_1]
   refine hM _ _ ?_
   clear hM M
   refine pops_do rfl rfl (by simp only [upd_at, Nat.reduceEqDiff, if_true, if_false, markPV, g23_0, g26_1]) fun M hM => ?_
   simp only [pop, St.eval, constSlot, upd_at, Nat.reduceEqDiff, if_true, if_false, popBin, binK, intK, strK, eqK, Tryz.underlying9, isPtr, eq_self, true_and, and_true, str_list, str_size, str_app, str_cut, str_get, markPV, g23_0, g26_1]
   refine hM _ _ ?_
   clear hM M
   refine pops_do rfl rfl (by simp only [upd_at, Nat.reduceEqDiff, if_true, if_false, markPV, g23_0, g26_1]) fun M hM => ?_
   simp only [pop, St.eval, constSlot, upd_at, Nat.reduceEqDiff, if_true, if_false, popIf, true_implies, false_implies, Bool.true_eq_false, Bool.false_eq_true, reduceCtorEq, true_and, and_true, markPV, g23_0, g26_1]
   refine hM _ _ ?_
   clear hM M
   exact pops_done (hJ8 _ (wk_same (wk_any ((wk_any ((wk_any ((wk_any ((wk_any (Wk.refl _ _))))))))))))
  ·skip
   intro g26_1 J8 hJ8
   simp only [List.take_succ_cons, List.take_zero]
   simp only [anyAt_cons, anyAt_nil] at hJ8
   refine pops_off (b := false) rfl rfl (by simp only [upd_at, Nat.reduceEqDiff, if_true, if_false, markPV, g23_0, g26_1]) (by decide) ?_
   refine pops_off (b := false) rfl rfl (by simp only [upd_at, Nat.reduceEqDiff, if_true, if_false, markPV, g23_0, g26_1]) (by decide) ?_
   refine pops_off (b := false) rfl rfl (by simp only [upd_at, Nat.reduceEqDiff, if_true, if_false, markPV, g23_0, g26_1]) (by decide) ?_
   refine pops_off (b := false) rfl rfl (by simp only [upd_at, Nat.reduceEqDiff, if_true, if_false, markPV, g23_0, g26_1]) (by decide) ?_
   refine pops_off (b := false) rfl rfl (by simp only [upd_at, Nat.reduceEqDiff, if_true, if_false, markPV, g23_0, g26_1]) (by decide) ?_
   refine pops_do rfl rfl (by simp only [upd_at, Nat.reduceEqDiff, if_true, if_false, markPV, g23_0, g26_1]) fun M hM => ?_
   simp only [pop, St.eval, constSlot, upd_at, Nat.reduceEqDiff, if_true, if_false, popIf, true_implies, false_implies, Bool.true_eq_false, Bool.false_eq_true, reduceCtorEq, true_and, and_true, markPV, g23_0, g26_1]
   refine hM _ _ ?_
   clear hM M
   exact pops_done (hJ8 _ (wk_same (wk_any ((wk_any ((wk_any ((wk_any ((wk_any (Wk.refl _ _))))))))))))
  simp only [List.drop_succ_cons, List.drop_zero, anyAt_cons, anyAt_nil]
  refine pops_to rfl fun M hM => ?_
  simp only [pop, St.eval, constSlot, upd_at, Nat.reduceEqDiff, if_true, if_false, popIf, true_implies, false_implies, Bool.true_eq_false, Bool.false_eq_true, reduceCtorEq, true_and, and_true, markPV, g23_0]
  refine hM _ _ ?_
  clear hM M
  exact pops_done (hJ7 _ (wk_same (wk_any ((wk_any ((wk_any ((wk_any ((wk_any ((wk_any ((wk_any ((wk_any ((wk_any (Wk.refl _ _))))))))))))))))))))
 ·skip
  intro g23_0 J7 hJ7
  simp only [List.take_succ_cons, List.take_zero]
  simp only [anyAt_cons, anyAt_nil] at hJ7
  refine pops_off (b := true) rfl rfl (by simp only [upd_at, Nat.reduceEqDiff, if_true, if_false, markPV, g23_0]) (by decide) ?_
  refine pops_off (b := true) rfl rfl (by simp only [upd_at, Nat.reduceEqDiff, if_true, if_false, markPV, g23_0]) (by decide) ?_
  refine pops_off (b := true) rfl rfl (by simp only [upd_at, Nat.reduceEqDiff, if_true, if_false, markPV, g23_0]) (by decide) ?_
  refine pops_off0 rfl rfl (by simp only [upd_at, Nat.reduceEqDiff, if_true, if_false, markPV, g23_0]) ?_
  refine pops_off0 rfl rfl (by simp only [upd_at, Nat.reduceEqDiff, if_true, if_false, markPV, g23_0]) ?_
  refine pops_off0 rfl rfl (by simp only [upd_at, Nat.reduceEqDiff, if_true, if_false, markPV, g23_0]) ?_
  refine pops_off0 rfl rfl (by simp only [upd_at, Nat.reduceEqDiff, if_true, if_false, markPV, g23_0]) ?_
  refine pops_off0 rfl rfl (by simp only [upd_at, Nat.reduceEqDiff, if_true, if_false, markPV, g23_0]) ?_
  refine pops_off (b := true) rfl rfl (by simp only [upd_at, Nat.reduceEqDiff, if_true, if_false, markPV, g23_0]) (by decide) ?_
  refine pops_to rfl fun M hM => ?_
  simp only [pop, St.eval, constSlot, upd_at, Nat.reduceEqDiff, if_true, if_false, popIf, true_implies, false_implies, Bool.true_eq_false, Bool.false_eq_true, reduceCtorEq, true_and, and_true, markPV, g23_0]
  refine hM _ _ ?_
  clear hM M
  exact pops_done (hJ7 _ (wk_same (wk_any ((wk_any ((wk_any ((wk_any ((wk_any ((wk_any ((wk_any ((wk_any ((wk_any (Wk.refl _ _))))))))))))))))))))
 simp only [List.drop_succ_cons, List.drop_zero, anyAt_cons, anyAt_nil]
 refine pops_mv (.inr rfl) rfl (by simp only [St.eval, upd_at, Nat.reduceEqDiff, if_true, if_false, markPV] <;> rfl) ?_
 refine pops_done (hR4 _ ?_)
 clear hR4 R4
 try simp only [thenK, scopeK]
 refine hN3 _ ?_
 clear hN3 N3
 refine pwp_ret ?_
 simp only [thenK, blockK, scopeK, bodyK]
 refine ⟨_, rfl, endFun (Same.refl _) ?_⟩
 try simp only [upd_at, Nat.reduceEqDiff, if_true, if_false, markPV]
 all_goals
  rfl

theorem nm34 : (Tryz.f34.name == "runtime.NumGoroutine") = false := by kernel_rfl
theorem differRef_fun (W0 : World) (x y : MarkG) (b : Int) :
  PFun Tryz.prog W0 34 [.agg (markPV x), .agg (markPV y), .one (pint b)] (.sv (.one (pbool (differB x y b)))) := by
 intro h
 refine pcalls3 (n := 34) Tryz.func34 rfl nm34 rfl fun hb => ?_
 refine pwp_then fun N1 hN1 => ?_
 refine pwp_reg fun R2 hR2 => ?_
 refine pops_to rfl fun M hM => ?_
 simp only [pop, St.eval, constSlot, upd_at, Nat.reduceEqDiff, if_true, if_false, popBox, popBoxRo, slotCells, markPV]
 refine .inr ⟨Nat.succ_pos _, hM _ _ ?_⟩
 clear hM M
 refine pops_to rfl fun M hM => ?_
 simp only [pop, St.eval, constSlot, upd_at, Nat.reduceEqDiff, if_true, if_false, popBox, popBoxRo, slotCells, markPV]
 refine .inr ⟨Nat.succ_pos _, hM _ _ ?_⟩
 clear hM M
 refine pops_mv (.inr rfl) rfl (by simp only [St.eval, constSlot] <;> rfl) ?_
 refine pops_done (hR2 _ ?_)
 clear hR2 R2
 try simp only [thenK, scopeK]
 refine hN1 _ ?_
 clear hN1 N1
 refine pwp_then fun N3 hN3 => ?_
 refine pwp_reg fun R4 hR4 => ?_
 refine pops_to rfl fun M hM => ?_
 simp only [pop, St.eval, constSlot, upd_at, Nat.reduceEqDiff, if_true, if_false, popFieldAddr, fieldOf, List.drop_succ_cons, List.drop_zero, List.getElem?_toArray, List.getElem?_cons_zero, List.getElem?_cons_succ, Tryz.underlying86, sz3, markPV]
 refine ⟨⟨_, rfl⟩, hM _ _ ?_⟩
 clear hM M
 refine pops_to rfl fun M hM => ?_
 simp only [pop, St.eval, constSlot, upd_at, Nat.reduceEqDiff, if_true, if_false, popLoad, loadK, isAggD, List.drop_zero, List.getElem?_toArray, List.getElem?_cons_zero, List.getElem?_cons_succ, Bool.false_eq_true, Tryz.underlying3, sz3, eq_self, true_and, and_true, markPV]
 refine hM _ _ ?_
 clear hM M
 refine pops_to rfl fun M hM => ?_
 simp only [pop, St.eval, constSlot, upd_at, Nat.reduceEqDiff, if_true, if_false, popFieldAddr, fieldOf, List.drop_succ_cons, List.drop_zero, List.getElem?_toArray, List.getElem?_cons_zero, List.getElem?_cons_succ, Tryz.underlying86, sz3, markPV]
 refine ⟨⟨_, rfl⟩, hM _ _ ?_⟩
 clear hM M
 refine pops_to rfl fun M hM => ?_
 simp only [pop, St.eval, constSlot, upd_at, Nat.reduceEqDiff, if_true, if_false, popLoad, loadK, isAggD, List.drop_zero, List.getElem?_toArray, List.getElem?_cons_zero, List.getElem?_cons_succ, Bool.false_eq_true, Tryz.underlying3, sz3, eq_self, true_and, and_true, markPV]
 refine hM _ _ ?_
 clear hM M
 refine pops_to rfl fun M hM => ?_
 simp only [pop, St.eval, constSlot, upd_at, Nat.reduceEqDiff, if_true, if_false, popBin, binK, intK, strK, eqK, Tryz.underlying3, isPtr, eq_self, true_and, and_true, markPV]
 refine hM _ _ ?_
 clear hM M
 refine pops_mv (.inl rfl) rfl (by simp only [St.eval, upd_at, Nat.reduceEqDiff, if_true, if_false, markPV] <;> rfl) ?_
 apply pops_or0 10 12 22 [13, 14, 15, 16, 17, 18, 19, 20, 21] (by simp only [upd_at, Nat.reduceEqDiff, if_true, if_false, markPV] <;> rfl)
 ·skip
  intro g12_0 J5 hJ5
  simp only [List.take_succ_cons, List.take_zero]
  simp only [anyAt_cons, anyAt_nil] at hJ5
  refine pops_mvg (.inl rfl) rfl rfl (by simp only [upd_at, Nat.reduceEqDiff, if_true, if_false, markPV, g12_0]) (by simp only [St.eval, upd_at, Nat.reduceEqDiff, if_true, if_false, markPV, g12_0] <;> rfl) ?_
  refine pops_do rfl rfl (by simp only [upd_at, Nat.reduceEqDiff, if_true, if_false, markPV, g12_0]) fun M hM => ?_
  simp only [pop, St.eval, constSlot, upd_at, Nat.reduceEqDiff, if_true, if_false, popBin, binK, intK, strK, eqK, Tryz.underlying3, isPtr, eq_self, true_and, and_true, markPV, g12_0]
  refine hM _ _ ?_
  clear hM M
  refine pops_mvg (.inl rfl) rfl rfl (by simp only [upd_at, Nat.reduceEqDiff, if_true, if_false, markPV, g12_0]) (by simp only [St.eval, upd_at, Nat.reduceEqDiff, if_true, if_false, markPV, g12_0] <;> rfl) ?_
  apply pops_and0 6 15 21 [16, 17, 18, 19, 20] (by simp only [upd_at, Nat.reduceEqDiff, if_true, if_false, markPV, g12_0] <;> rfl)
  ·skip
   intro g15_1 J6 hJ6
   simp only [List.take_succ_cons, List.take_zero]
   simp only [anyAt_cons, anyAt_nil] at hJ6
   refine pops_do rfl rfl (by simp only [upd_at, Nat.reduceEqDiff, if_true, if_false, markPV, g12_0, g15_1]) fun M hM => ?_
   simp only [pop, St.eval, constSlot, upd_at, Nat.reduceEqDiff, if_true, if_false, popFieldAddr, fieldOf, List.drop_succ_cons, List.drop_zero, List.getElem?_toArray, List.getElem?_cons_zero, List.getElem?_cons_succ, Tryz.underlying86, sz3, markPV, g12_0, g15_1]
   refine ⟨⟨_, rfl⟩, hM _ _ ?_⟩
   clear hM M
   refine pops_do rfl rfl (by simp only [upd_at, Nat.reduceEqDiff, if_true, if_false, markPV, g12_0, g15_1]) fun M hM => ?_
   simp only [pop, St.eval, constSlot, upd_at, Nat.reduceEqDiff, if_true, if_false, popLoad, loadK, isAggD, List.drop_zero, List.getElem?_toArray, List.getElem?_cons_zero, List.getElem?_cons_succ, Bool.false_eq_true, Tryz.underlying3, sz3, eq_self, true_and, and_true, markPV, g12_0, g15_1]
   refine hM _ _ ?_
   clear hM M
   refine pops_do rfl rfl (by simp only [upd_at, Nat.reduceEqDiff, if_true, if_false, markPV, g12_0, g15_1]) fun M hM => ?_
   simp only [pop, St.eval, constSlot, upd_at, Nat.reduceEqDiff, if_true, if_false, popFieldAddr, fieldOf, List.drop_succ_cons, List.drop_zero, List.getElem?_toArray, List.getElem?_cons_zero, List.getElem?_cons_succ, Tryz.underlying86, sz3, markPV, g12_0, g15_1]
   refine ⟨⟨_, rfl⟩, hM _ _ ?_⟩
   clear hM M
   refine pops_do rfl rfl (by simp only [upd_at, Nat.reduceEqDiff, if_true, if_false, markPV, g12_0, g15_1]) fun M hM => ?_
   simp only [pop, St.eval, constSlot, upd_at, Nat.reduceEqDiff, if_true, if_false, popLoad, loadK, isAggD, List.drop_zero, List.getElem?_toArray, List.getElem?_cons_zero, List.getElem?_cons_succ, Bool.false_eq_true, Tryz.underlying3, sz3, eq_self, true_and, and_true, markPV, g12_0, g15_1]
   refine hM _ _ ?_
   clear hM M
   refine pops_do rfl rfl (by simp only [upd_at, Nat.reduceEqDiff, if_true, if_false, markPV, g12_0, g15_1]) fun M hM => ?_
   simp only [pop, St.eval, constSlot, upd_at, Nat.reduceEqDiff, if_true, if_false, popBin, binK, intK, strK, eqK, Tryz.underlying3, isPtr, eq_self, true_and, and_true, markPV, g12_0, g15_1]
   refine hM _ _ ?_
   clear hM M
   refine pops_do rfl rfl (by simp only [upd_at, Nat.reduceEqDiff, if_true, if_false, markPV, g12_0, g15_1]) fun M hM => ?_
   simp only [pop, St.eval, constSlot, upd_at, Nat.reduceEqDiff, if_true, if_false, popIf, true_implies, false_implies, Bool.true_eq_false, Bool.false_eq_true, reduceCtorEq, true_and, and_true, markPV, g12_0, g15_1]
   refine hM _ _ ?_
   clear hM M
   exact pops_done (hJ6 _ (wk_same (wk_any ((wk_any ((wk_any ((wk_any ((wk_any (Wk.refl _ _))))))))))))
  ·skip
   intro g15_1 J6 hJ6
   simp only [List.take_succ_cons, List.take_zero]
   simp only [anyAt_cons, anyAt_nil] at hJ6
   refine pops_off (b := false) rfl rfl (by simp only [upd_at, Nat.reduceEqDiff, if_true, if_false, markPV, g12_0, g15_1]) (by decide) ?_
   refine pops_off (b := false) rfl rfl (by simp only [upd_at, Nat.reduceEqDiff, if_true, if_false, markPV, g12_0, g15_1]) (by decide) ?_
   refine pops_off (b := false) rfl rfl (by simp only [upd_at, Nat.reduceEqDiff, if_true, if_false, markPV, g12_0, g15_1]) (by decide) ?_
   refine pops_off (b := false) rfl rfl (by simp only [upd_at, Nat.reduceEqDiff, if_true, if_false, markPV, g12_0, g15_1]) (by decide) ?_
   refine pops_off (b := false) rfl rfl (by simp only [upd_at, Nat.reduceEqDiff, if_true, if_false, markPV, g12_0, g15_1]) (by decide) ?_
   refine pops_do rfl rfl (by simp only [upd_at, Nat.reduceEqDiff, if_true, if_false, markPV, g12_0, g15_1]) fun M hM => ?_
   simp only [pop, St.eval, constSlot, upd_at, Nat.reduceEqDiff, if_true, if_false, popIf, true_implies, false_implies, Bool.true_eq_false, Bool.false_eq_true, reduceCtorEq, true_and, and_true, markPV, g12_0, g15_1]
   refine hM _ _ ?_
   clear hM M
   exact pops_done (hJ6 _ (wk_same (wk_any ((wk_any ((wk_any ((wk_any ((wk_any (Wk.refl _ _))))))))))))
  simp only [List.drop_succ_cons, List.drop_zero, anyAt_cons, anyAt_nil]
  refine pops_to rfl fun M hM => ?_
  simp only [pop, St.eval, constSlot, upd_at, Nat.reduceEqDiff, if_true, if_false, popIf, true_implies, false_implies, Bool.true_eq_false, Bool.false_eq_true, reduceCtorEq, true_and, and_true, markPV, g12_0]
  refine hM _ _ ?_
  clear hM M
  exact pops_done (hJ5 _ (wk_same (wk_any ((wk_any ((wk_any ((wk_any ((wk_any ((wk_any ((wk_any ((wk_any ((wk_any (Wk.refl _ _))))))))))))))))))))
 ·skip
  intro g12_0 J5 hJ5
  simp only [List.take_succ_cons, List.take_zero]
  simp only [anyAt_cons, anyAt_nil] at hJ5
  refine pops_off (b := true) rfl rfl (by simp only [upd_at, Nat.reduceEqDiff, if_true, if_false, markPV, g12_0]) (by decide) ?_
  refine pops_off (b := true) rfl rfl (by simp only [upd_at, Nat.reduceEqDiff, if_true, if_false, markPV, g12_0]) (by decide) ?_
  refine pops_off (b := true) rfl rfl (by simp only [upd_at, Nat.reduceEqDiff, if_true, if_false, markPV, g12_0]) (by decide) ?_
  refine pops_off0 rfl rfl (by simp only [upd_at, Nat.reduceEqDiff, if_true, if_false, markPV, g12_0]) ?_
  refine pops_off0 rfl rfl (by simp only [upd_at, Nat.reduceEqDiff, if_true, if_false, markPV, g12_0]) ?_
  refine pops_off0 rfl rfl (by simp only [upd_at, Nat.reduceEqDiff, if_true, if_false, markPV, g12_0]) ?_
  refine pops_off0 rfl rfl (by simp only [upd_at, Nat.reduceEqDiff, if_true, if_false, markPV, g12_0]) ?_
  refine pops_off0 rfl rfl (by simp only [upd_at, Nat.reduceEqDiff, if_true, if_false, markPV, g12_0]) ?_
  refine pops_off (b := true) rfl rfl (by simp only [upd_at, Nat.reduceEqDiff, if_true, if_false, markPV, g12_0]) (by decide) ?_
  refine pops_to rfl fun M hM => ?_
  simp only [pop, St.eval, constSlot, upd_at, Nat.reduceEqDiff, if_true, if_false, popIf, true_implies, false_implies, Bool.true_eq_false, Bool.false_eq_true, reduceCtorEq, true_and, and_true, markPV, g12_0]
  refine hM _ _ ?_
  clear hM M
  exact pops_done (hJ5 _ (wk_same (wk_any ((wk_any ((wk_any ((wk_any ((wk_any ((wk_any ((wk_any ((wk_any ((wk_any (Wk.refl _ _))))))))))))))))))))
 simp only [List.drop_succ_cons, List.drop_zero, anyAt_cons, anyAt_nil]
 refine pops_mv (.inl rfl) rfl (by simp only [St.eval, upd_at, Nat.reduceEqDiff, if_true, if_false, markPV] <;> rfl) ?_
 apply pops_or0 10 23 33 [24, 25, 26, 27, 28, 29, 30, 31, 32] (by simp only [upd_at, Nat.reduceEqDiff, if_true, if_false, markPV] <;> rfl)
 ·skip
  intro g23_0 J7 hJ7
  simp only [List.take_succ_cons, List.take_zero]
  simp only [anyAt_cons, anyAt_nil] at hJ7
  refine pops_mvg (.inl rfl) rfl rfl (by simp only [upd_at, Nat.reduceEqDiff, if_true, if_false, markPV, g23_0]) (by simp only [St.eval, upd_at, Nat.reduceEqDiff, if_true, if_false, markPV, g23_0] <;> rfl) ?_
  refine pops_do rfl rfl (by simp only [upd_at, Nat.reduceEqDiff, if_true, if_false, markPV, g23_0]) fun M hM => ?_
  simp only [pop, St.eval, constSlot, upd_at, Nat.reduceEqDiff, if_true, if_false, popBin, binK, intK, strK, eqK, Tryz.underlying3, isPtr, eq_self, true_and, and_true, markPV, g23_0]
  refine hM _ _ ?_
  clear hM M
  refine pops_mvg (.inl rfl) rfl rfl (by simp only [upd_at, Nat.reduceEqDiff, if_true, if_false, markPV, g23_0]) (by simp only [St.eval, upd_at, Nat.reduceEqDiff, if_true, if_false, markPV, g23_0] <;> rfl) ?_
  apply pops_and0 6 26 32 [27, 28, 29, 30, 31] (by simp only [upd_at, Nat.reduceEqDiff, if_true, if_false, markPV, g23_0] <;> rfl)
  ·skip
   intro g26_1 J8 hJ8
   simp only [List.take_succ_cons, List.take_zero]
   simp only [anyAt_cons, anyAt_nil] at hJ8
   refine pops_do rfl rfl (by simp only [upd_at, Nat.reduceEqDiff, if_true, if_false, markPV, g23_0, g26_1]) fun M hM => ?_
   simp only [pop, St.eval, constSlot, upd_at, Nat.reduceEqDiff, if_true, if_false, popFieldAddr, fieldOf, List.drop_succ_cons, List.drop_zero, List.getElem?_toArray, List.getElem?_cons_zero, List.getElem?_cons_succ, Tryz.underlying86, sz9, markPV, g23_0, g26_1]
   refine ⟨⟨_, rfl⟩, hM _ _ ?_⟩
   clear hM M
   refine pops_do rfl rfl (by simp only [upd_at, Nat.reduceEqDiff, if_true, if_false, markPV, g23_0, g26_1]) fun M hM => ?_
   simp only [pop, St.eval, constSlot, upd_at, Nat.reduceEqDiff, if_true, if_false, popLoad, loadK, isAggD, List.drop_zero, List.getElem?_toArray, List.getElem?_cons_zero, List.getElem?_cons_succ, Bool.false_eq_true, Tryz.underlying9, sz9, eq_self, true_and, and_true, markPV, g23_0, g26_1]
   refine hM _ _ ?_
   clear hM M
   refine pops_do rfl rfl (by simp only [upd_at, Nat.reduceEqDiff, if_true, if_false, markPV, g23_0, g26_1]) fun M hM => ?_
   simp only [pop, St.eval, constSlot, upd_at, Nat.reduceEqDiff, if_true, if_false, popFieldAddr, fieldOf, List.drop_succ_cons, List.drop_zero, List.getElem?_toArray, List.getElem?_cons_zero, List.getElem?_cons_succ, Tryz.underlying86, sz9, markPV, g23_0, g26_1]
   refine ⟨⟨_, rfl⟩, hM _ _ ?_⟩
   clear hM M
   refine pops_do rfl rfl (by simp only [upd_at, Nat.reduceEqDiff, if_true, if_false, markPV, g23_0, g26_1]) fun M hM => ?_
   simp only [pop, St.eval, constSlot, upd_at, Nat.reduceEqDiff, if_true, if_false, popLoad, loadK, isAggD, List.drop_zero, List.getElem?_toArray, List.getElem?_cons_zero, List.getElem?_cons_succ, Bool.false_eq_true, Tryz.underlying9, sz9, eq_self, true_and, and_true, markPV, g23_0, g26_1]
   refine hM _ _ ?_
   clear hM M
   refine pops_do rfl rfl (by simp only [upd_at, Nat.reduceEqDiff, if_true, if_false, markPV, g23_0, g26_1]) fun M hM => ?_
   simp only [pop, St.eval, constSlot, upd_at, Nat.reduceEqDiff, if_true, if_false, popBin, binK, intK, strK, eqK, Tryz.underlying9, isPtr, eq_self, true_and, and_true, str_list, str_size, str_app, str_cut, str_get, markPV, g23_0, g26_1]
   refine hM _ _ ?_
   clear hM M
   refine pops_do rfl rfl (by simp only [upd_at, Nat.reduceEqDiff, if_true, if_false, markPV, g23_0, g26_1]) fun M hM => ?_
   simp only [pop, St.eval, constSlot, upd_at, Nat.reduceEqDiff, if_true, if_false, popIf, true_implies, false_implies, Bool.true_eq_false, Bool.false_eq_true, reduceCtorEq, true_and, and_true, markPV, g23_0, g26_1]
   refine hM _ _ ?_
   clear hM M
   exact pops_done (hJ8 _ (wk_same (wk_any ((wk_any ((wk_any ((wk_any ((wk_any (Wk.refl _ _))))))))))))
  ·skip
   intro g26_1 J8 hJ8
   simp only [List.take_succ_cons, List.take_zero]
   simp only [anyAt_cons, anyAt_nil] at hJ8
   refine pops_off (b := false) rfl rfl (by simp only [upd_at, Nat.reduceEqDiff, if_true, if_false, markPV, g23_0, g26_1]) (by decide) ?_
   refine pops_off (b := false) rfl rfl (by simp only [upd_at, Nat.reduceEqDiff, if_true, if_false, markPV, g23_0, g26_1]) (by decide) ?_
   refine pops_off (b := false) rfl rfl (by simp only [upd_at, Nat.reduceEqDiff, if_true, if_false, markPV, g23_0, g26_1]) (by decide) ?_
   refine pops_off (b := false) rfl rfl (by simp only [upd_at, Nat.reduceEqDiff, if_true, if_false, markPV, g23_0, g26_1]) (by decide) ?_
   refine pops_off (b := false) rfl rfl (by simp only [upd_at, Nat.reduceEqDiff, if_true, if_false, markPV, g23_0, g26_1]) (by decide) ?_
   refine pops_do rfl rfl (by simp only [upd_at, Nat.reduceEqDiff, if_true, if_false, markPV, g23_0, g26_1]) fun M hM => ?_
   simp only [pop, St.eval, constSlot, upd_at, Nat.reduceEqDiff, if_true, if_false, popIf, true_implies, false_implies, Bool.true_eq_false, Bool.false_eq_true, reduceCtorEq, true_and, and_true, markPV, g23_0, g26_1]
   refine hM _ _ ?_
   clear hM M
   exact pops_done (hJ8 _ (wk_same (wk_any ((wk_any ((wk_any ((wk_any ((wk_any (Wk.refl _ _))))))))))))
  simp only [List.drop_succ_cons, List.drop_zero, anyAt_cons, anyAt_nil]
  refine pops_to rfl fun M hM => ?_
  simp only [pop, St.eval, constSlot, upd_at, Nat.reduceEqDiff, if_true, if_false, popIf, true_implies, false_implies, Bool.true_eq_false, Bool.false_eq_true, reduceCtorEq, true_and, and_true, markPV, g23_0]
  refine hM _ _ ?_
  clear hM M
  exact pops_done (hJ7 _ (wk_same (wk_any ((wk_any ((wk_any ((wk_any ((wk_any ((wk_any ((wk_any ((wk_any ((wk_any (Wk.refl _ _))))))))))))))))))))
 ·skip
  intro g23_0 J7 hJ7
  simp only [List.take_succ_cons, List.take_zero]
  simp only [anyAt_cons, anyAt_nil] at hJ7
  refine pops_off (b := true) rfl rfl (by simp only [upd_at, Nat.reduceEqDiff, if_true, if_false, markPV, g23_0]) (by decide) ?_
  refine pops_off (b := true) rfl rfl (by simp only [upd_at, Nat.reduceEqDiff, if_true, if_false, markPV, g23_0]) (by decide) ?_
  refine pops_off (b := true) rfl rfl (by simp only [upd_at, Nat.reduceEqDiff, if_true, if_false, markPV, g23_0]) (by decide) ?_
  refine pops_off0 rfl rfl (by simp only [upd_at, Nat.reduceEqDiff, if_true, if_false, markPV, g23_0]) ?_
  refine pops_off0 rfl rfl (by simp only [upd_at, Nat.reduceEqDiff, if_true, if_false, markPV, g23_0]) ?_
  refine pops_off0 rfl rfl (by simp only [upd_at, Nat.reduceEqDiff, if_true, if_false, markPV, g23_0]) ?_
  refine pops_off0 rfl rfl (by simp only [upd_at, Nat.reduceEqDiff, if_true, if_false, markPV, g23_0]) ?_
  refine pops_off0 rfl rfl (by simp only [upd_at, Nat.reduceEqDiff, if_true, if_false, markPV, g23_0]) ?_
  refine pops_off (b := true) rfl rfl (by simp only [upd_at, Nat.reduceEqDiff, if_true, if_false, markPV, g23_0]) (by decide) ?_
  refine pops_to rfl fun M hM => ?_
  simp only [pop, St.eval, constSlot, upd_at, Nat.reduceEqDiff, if_true, if_false, popIf, true_implies, false_implies, Bool.true_eq_false, Bool.false_eq_true, reduceCtorEq, true_and, and_true, markPV, g23_0]
  refine hM _ _ ?_
  clear hM M
  exact pops_done (hJ7 _ (wk_same (wk_any ((wk_any ((wk_any ((wk_any ((wk_any ((wk_any ((wk_any ((wk_any ((wk_any (Wk.refl _ _))))))))))))))))))))
 simp only [List.drop_succ_cons, List.drop_zero, anyAt_cons, anyAt_nil]
 refine pops_mv (.inr rfl) rfl (by simp only [St.eval, upd_at, Nat.reduceEqDiff, if_true, if_false, markPV] <;> rfl) ?_
 refine pops_done (hR4 _ ?_)
 clear hR4 R4
 try simp only [thenK, scopeK]
 refine hN3 _ ?_
 clear hN3 N3
 refine pwp_ret ?_
 simp only [thenK, blockK, scopeK, bodyK]
 refine ⟨_, rfl, endFun (Same.refl _) ?_⟩
 try simp only [upd_at, Nat.reduceEqDiff, if_true, if_false, markPV]
 all_goals
  rfl

theorem nm26 : (Tryz.f26.name == "runtime.NumGoroutine") = false := by kernel_rfl
theorem rightBy_fun (W0 : World) (b : Int) :
  PFun Tryz.prog W0 26 [.one (pint b)] (.sv (.one (pbool (rightB b)))) := by
 intro h
 refine pcalls1 (n := 13) Tryz.func26 rfl nm26 rfl fun hb => ?_
 refine pwp_then fun N1 hN1 => ?_
 refine pwp_reg fun R2 hR2 => ?_
 refine pops_mv (.inr rfl) rfl (by simp only [St.eval, constSlot] <;> rfl) ?_
 refine pops_done (hR2 _ ?_)
 clear hR2 R2
 try simp only [thenK, scopeK]
 refine hN1 _ ?_
 clear hN1 N1
 refine pwp_then fun N3 hN3 => ?_
 refine pwp_reg fun R4 hR4 => ?_
 refine pops_mv (.inl rfl) rfl (by simp only [St.eval, upd_at, Nat.reduceEqDiff, if_true, if_false] <;> rfl) ?_
 refine pops_to rfl fun M hM => ?_
 simp only [pop, St.eval, constSlot, upd_at, Nat.reduceEqDiff, if_true, if_false, popBin, binK, intK, strK, eqK, Tryz.underlying3, isPtr, eq_self, true_and, and_true]
 refine hM _ _ ?_
 clear hM M
 refine pops_mv (.inl rfl) rfl (by simp only [St.eval, upd_at, Nat.reduceEqDiff, if_true, if_false] <;> rfl) ?_
 apply pops_or0 3 5 8 [6, 7] (by simp only [upd_at, Nat.reduceEqDiff, if_true, if_false] <;> rfl)
 ·skip
  intro g5_0 J5 hJ5
  simp only [List.take_succ_cons, List.take_zero]
  simp only [anyAt_cons, anyAt_nil] at hJ5
  refine pops_mvg (.inl rfl) rfl rfl (by simp only [upd_at, Nat.reduceEqDiff, if_true, if_false, g5_0]) (by simp only [St.eval, upd_at, Nat.reduceEqDiff, if_true, if_false, g5_0] <;> rfl) ?_
  refine pops_do rfl rfl (by simp only [upd_at, Nat.reduceEqDiff, if_true, if_false, g5_0]) fun M hM => ?_
  simp only [pop, St.eval, constSlot, upd_at, Nat.reduceEqDiff, if_true, if_false, popBin, binK, intK, strK, eqK, Tryz.underlying3, isPtr, eq_self, true_and, and_true, g5_0]
  refine hM _ _ ?_
  clear hM M
  refine pops_to rfl fun M hM => ?_
  simp only [pop, St.eval, constSlot, upd_at, Nat.reduceEqDiff, if_true, if_false, popIf, true_implies, false_implies, Bool.true_eq_false, Bool.false_eq_true, reduceCtorEq, true_and, and_true, g5_0]
  refine hM _ _ ?_
  clear hM M
  exact pops_done (hJ5 _ (wk_same (wk_any ((wk_any (Wk.refl _ _))))))
 ·skip
  intro g5_0 J5 hJ5
  simp only [List.take_succ_cons, List.take_zero]
  simp only [anyAt_cons, anyAt_nil] at hJ5
  refine pops_off (b := true) rfl rfl (by simp only [upd_at, Nat.reduceEqDiff, if_true, if_false, g5_0]) (by decide) ?_
  refine pops_off (b := true) rfl rfl (by simp only [upd_at, Nat.reduceEqDiff, if_true, if_false, g5_0]) (by decide) ?_
  refine pops_to rfl fun M hM => ?_
  simp only [pop, St.eval, constSlot, upd_at, Nat.reduceEqDiff, if_true, if_false, popIf, true_implies, false_implies, Bool.true_eq_false, Bool.false_eq_true, reduceCtorEq, true_and, and_true, g5_0]
  refine hM _ _ ?_
  clear hM M
  exact pops_done (hJ5 _ (wk_same (wk_any ((wk_any (Wk.refl _ _))))))
 simp only [List.drop_succ_cons, List.drop_zero, anyAt_cons, anyAt_nil]
 refine pops_mv (.inl rfl) rfl (by simp only [St.eval, upd_at, Nat.reduceEqDiff, if_true, if_false] <;> rfl) ?_
 apply pops_or0 3 9 12 [10, 11] (by simp only [upd_at, Nat.reduceEqDiff, if_true, if_false] <;> rfl)
 ·skip
  intro g9_0 J6 hJ6
  simp only [List.take_succ_cons, List.take_zero]
  simp only [anyAt_cons, anyAt_nil] at hJ6
  refine pops_mvg (.inl rfl) rfl rfl (by simp only [upd_at, Nat.reduceEqDiff, if_true, if_false, g9_0]) (by simp only [St.eval, upd_at, Nat.reduceEqDiff, if_true, if_false, g9_0] <;> rfl) ?_
  refine pops_do rfl rfl (by simp only [upd_at, Nat.reduceEqDiff, if_true, if_false, g9_0]) fun M hM => ?_
  simp only [pop, St.eval, constSlot, upd_at, Nat.reduceEqDiff, if_true, if_false, popBin, binK, intK, strK, eqK, Tryz.underlying3, isPtr, eq_self, true_and, and_true, g9_0]
  refine hM _ _ ?_
  clear hM M
  refine pops_to rfl fun M hM => ?_
  simp only [pop, St.eval, constSlot, upd_at, Nat.reduceEqDiff, if_true, if_false, popIf, true_implies, false_implies, Bool.true_eq_false, Bool.false_eq_true, reduceCtorEq, true_and, and_true, g9_0]
  refine hM _ _ ?_
  clear hM M
  exact pops_done (hJ6 _ (wk_same (wk_any ((wk_any (Wk.refl _ _))))))
 ·skip
  intro g9_0 J6 hJ6
  simp only [List.take_succ_cons, List.take_zero]
  simp only [anyAt_cons, anyAt_nil] at hJ6
  refine pops_off (b := true) rfl rfl (by simp only [upd_at, Nat.reduceEqDiff, if_true, if_false, g9_0]) (by decide) ?_
  refine pops_off (b := true) rfl rfl (by simp only [upd_at, Nat.reduceEqDiff, if_true, if_false, g9_0]) (by decide) ?_
  refine pops_to rfl fun M hM => ?_
  simp only [pop, St.eval, constSlot, upd_at, Nat.reduceEqDiff, if_true, if_false, popIf, true_implies, false_implies, Bool.true_eq_false, Bool.false_eq_true, reduceCtorEq, true_and, and_true, g9_0]
  refine hM _ _ ?_
  clear hM M
  exact pops_done (hJ6 _ (wk_same (wk_any ((wk_any (Wk.refl _ _))))))
 simp only [List.drop_succ_cons, List.drop_zero, anyAt_cons, anyAt_nil]
 refine pops_mv (.inr rfl) rfl (by simp only [St.eval, upd_at, Nat.reduceEqDiff, if_true, if_false] <;> rfl) ?_
 refine pops_done (hR4 _ ?_)
 clear hR4 R4
 try simp only [thenK, scopeK]
 refine hN3 _ ?_
 clear hN3 N3
 refine pwp_ret ?_
 simp only [thenK, blockK, scopeK, bodyK]
 refine ⟨_, rfl, endFun (Same.refl _) ?_⟩
 try simp only [upd_at, Nat.reduceEqDiff, if_true, if_false]
 all_goals
  rfl

theorem nm33 : (Tryz.f33.name == "runtime.NumGoroutine") = false := by kernel_rfl
theorem findC_fun (W0 : World) (x : MarkG) (p : List UInt8) :
  PFun Tryz.prog W0 33 [.agg (markPV x), .one (.rop [pstr p])] (.sv (.one (pbool (x.path == p)))) := by
 intro h
 refine pcalls2 (n := 8) Tryz.func33 rfl nm33 rfl fun hb => ?_
 refine pwp_then fun N1 hN1 => ?_
 refine pwp_reg fun R2 hR2 => ?_
 refine pops_to rfl fun M hM => ?_
 simp only [pop, St.eval, constSlot, upd_at, Nat.reduceEqDiff, if_true, if_false, popBox, popBoxRo, slotCells, markPV]
 refine .inr ⟨Nat.succ_pos _, hM _ _ ?_⟩
 clear hM M
 refine pops_mv (.inr rfl) rfl (by simp only [St.eval, constSlot] <;> rfl) ?_
 refine pops_done (hR2 _ ?_)
 clear hR2 R2
 try simp only [thenK, scopeK]
 refine hN1 _ ?_
 clear hN1 N1
 refine pwp_then fun N3 hN3 => ?_
 refine pwp_reg fun R4 hR4 => ?_
 refine pops_to rfl fun M hM => ?_
 simp only [pop, St.eval, constSlot, upd_at, Nat.reduceEqDiff, if_true, if_false, popFieldAddr, fieldOf, List.drop_succ_cons, List.drop_zero, List.getElem?_toArray, List.getElem?_cons_zero, List.getElem?_cons_succ, Tryz.underlying86, sz9, markPV]
 refine ⟨⟨_, rfl⟩, hM _ _ ?_⟩
 clear hM M
 refine pops_to rfl fun M hM => ?_
 simp only [pop, St.eval, constSlot, upd_at, Nat.reduceEqDiff, if_true, if_false, popLoad, loadK, isAggD, List.drop_zero, List.getElem?_toArray, List.getElem?_cons_zero, List.getElem?_cons_succ, Bool.false_eq_true, Tryz.underlying9, sz9, eq_self, true_and, and_true, markPV]
 refine hM _ _ ?_
 clear hM M
 refine pops_to rfl fun M hM => ?_
 simp only [pop, St.eval, constSlot, upd_at, Nat.reduceEqDiff, if_true, if_false, popLoad, loadK, isAggD, List.drop_zero, List.getElem?_toArray, List.getElem?_cons_zero, List.getElem?_cons_succ, Bool.false_eq_true, Tryz.underlying9, sz9, eq_self, true_and, and_true, markPV]
 refine hM _ _ ?_
 clear hM M
 refine pops_to rfl fun M hM => ?_
 simp only [pop, St.eval, constSlot, upd_at, Nat.reduceEqDiff, if_true, if_false, popBin, binK, intK, strK, eqK, Tryz.underlying9, isPtr, eq_self, true_and, and_true, str_list, str_size, str_app, str_cut, str_get, markPV]
 refine hM _ _ ?_
 clear hM M
 refine pops_mv (.inr rfl) rfl (by simp only [St.eval, upd_at, Nat.reduceEqDiff, if_true, if_false, markPV] <;> rfl) ?_
 refine pops_done (hR4 _ ?_)
 clear hR4 R4
 try simp only [thenK, scopeK]
 refine hN3 _ ?_
 clear hN3 N3
 refine pwp_ret ?_
 simp only [thenK, blockK, scopeK, bodyK]
 refine ⟨_, rfl, endFun (Same.refl _) ?_⟩
 try simp only [upd_at, Nat.reduceEqDiff, if_true, if_false, markPV]
 all_goals
  rfl

theorem nm36 : (Tryz.f36.name == "runtime.NumGoroutine") = false := by kernel_rfl
theorem sortC_fun (W0 : World) (x y : Int × List UInt8) (hx : x.2.length ≤ 9223372036854775807) (hy : y.2.length ≤ 9223372036854775807) :
  PFun Tryz.prog W0 36 [.agg (chgPV x), .agg (chgPV y)] (.sv (.one (pint (ordR x.2 y.2)))) := by
 intro h
 refine pcalls2 (n := 10) Tryz.func36 rfl nm36 rfl fun hb => ?_
 refine pwp_then fun N1 hN1 => ?_
 refine pwp_reg fun R2 hR2 => ?_
 refine pops_to rfl fun M hM => ?_
 simp only [pop, St.eval, constSlot, upd_at, Nat.reduceEqDiff, if_true, if_false, popBox, popBoxRo, slotCells, chgPV]
 refine .inr ⟨Nat.succ_pos _, hM _ _ ?_⟩
 clear hM M
 refine pops_to rfl fun M hM => ?_
 simp only [pop, St.eval, constSlot, upd_at, Nat.reduceEqDiff, if_true, if_false, popBox, popBoxRo, slotCells, chgPV]
 refine .inr ⟨Nat.succ_pos _, hM _ _ ?_⟩
 clear hM M
 refine pops_mv (.inr rfl) rfl (by simp only [St.eval, constSlot] <;> rfl) ?_
 refine pops_done (hR2 _ ?_)
 clear hR2 R2
 try simp only [thenK, scopeK]
 refine hN1 _ ?_
 clear hN1 N1
 refine pwp_then fun N3 hN3 => ?_
 refine pwp_reg fun R4 hR4 => ?_
 refine pops_to rfl fun M hM => ?_
 simp only [pop, St.eval, constSlot, upd_at, Nat.reduceEqDiff, if_true, if_false, popFieldAddr, fieldOf, List.drop_succ_cons, List.drop_zero, List.getElem?_toArray, List.getElem?_cons_zero, List.getElem?_cons_succ, Tryz.underlying90, sz9, chgPV]
 refine ⟨⟨_, rfl⟩, hM _ _ ?_⟩
 clear hM M
 refine pops_to rfl fun M hM => ?_
 simp only [pop, St.eval, constSlot, upd_at, Nat.reduceEqDiff, if_true, if_false, popLoad, loadK, isAggD, List.drop_zero, List.getElem?_toArray, List.getElem?_cons_zero, List.getElem?_cons_succ, Bool.false_eq_true, Tryz.underlying9, sz9, eq_self, true_and, and_true, chgPV]
 refine hM _ _ ?_
 clear hM M
 refine pops_to rfl fun M hM => ?_
 simp only [pop, St.eval, constSlot, upd_at, Nat.reduceEqDiff, if_true, if_false, popFieldAddr, fieldOf, List.drop_succ_cons, List.drop_zero, List.getElem?_toArray, List.getElem?_cons_zero, List.getElem?_cons_succ, Tryz.underlying90, sz9, chgPV]
 refine ⟨⟨_, rfl⟩, hM _ _ ?_⟩
 clear hM M
 refine pops_to rfl fun M hM => ?_
 simp only [pop, St.eval, constSlot, upd_at, Nat.reduceEqDiff, if_true, if_false, popLoad, loadK, isAggD, List.drop_zero, List.getElem?_toArray, List.getElem?_cons_zero, List.getElem?_cons_succ, Bool.false_eq_true, Tryz.underlying9, sz9, eq_self, true_and, and_true, chgPV]
 refine hM _ _ ?_
 clear hM M
 refine pops_to rfl fun M hM => ?_
 simp only [pop, St.eval, constSlot, upd_at, Nat.reduceEqDiff, if_true, if_false, popCall, List.toList_toArray, List.map_cons, List.map_nil, svs, List.mapM_cons, List.mapM_nil, Option.bind_eq_bind, Option.bind_some, Option.pure_def, List.append_nil, List.cons_append, List.nil_append, str_size, chgPV]
 refine PFun.use (order_fun W0 x.2 y.2 hx hy) fun h1 s1 => hM _ _ ?_
 replace s1 := Same.trans (Same.refl _) s1
 clear hM M
 refine pops_mv (.inr rfl) rfl (by simp only [St.eval, upd_at, Nat.reduceEqDiff, if_true, if_false, chgPV] <;> rfl) ?_
 refine pops_done (hR4 _ ?_)
 clear hR4 R4
 try simp only [thenK, scopeK]
 refine hN3 _ ?_
 clear hN3 N3
 refine pwp_ret ?_
 simp only [thenK, blockK, scopeK, bodyK]
 refine ⟨_, rfl, endFun s1 ?_⟩
 try simp only [upd_at, Nat.reduceEqDiff, if_true, if_false, chgPV]
 all_goals
  rfl
end Go.Pw
