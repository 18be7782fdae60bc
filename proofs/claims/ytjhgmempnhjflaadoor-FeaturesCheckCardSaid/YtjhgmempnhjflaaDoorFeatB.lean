import Derived.Test.YtjhgmempnhjflaaDoorFeatA
namespace Go.Pw
open Go Go.RowKit Go.Proofs
set_option maxRecDepth 100000
set_option linter.unusedSimpArgs false
set_option linter.unusedVariables false
theorem sz31 : szOf Tryd.prog 31 = some 1 := by kernel_rfl
theorem sz81 : szOf Tryd.prog 81 = some 4 := by kernel_rfl
theorem ze81 : zeroOf Tryd.prog 81 = some (.agg #[(.int .i64 0), (.int .i64 0), (.int .i64 0), (.int .i64 0)]) := by kernel_rfl
theorem nm95 : (Tryd.f95.name == "runtime.NumGoroutine") = false := by kernel_rfl
theorem sameF_fun (W0 : World) (f g : Fault) :
  PFun Tryd.prog W0 95 [.agg (faultPV g), .one (.rop (faultPV f))] (.sv (.one (pbool (sameF f g)))) := by
 intro h
 refine pcalls2 (n := 16) Tryd.func95 rfl nm95 rfl fun hb => ?_
 refine pwp_then fun N1 hN1 => ?_
 refine pwp_reg fun R2 hR2 => ?_
 refine pops_to rfl fun M hM => ?_
 simp only [pop, St.eval, constSlot, upd_at, Nat.reduceEqDiff, if_true, if_false, popBox, popBoxRo, slotCells, faultPV]
 refine .inr ⟨Nat.succ_pos _, hM _ _ ?_⟩
 clear hM M
 refine pops_mv (.inr rfl) rfl (by simp only [St.eval, constSlot] <;> rfl) ?_
 refine pops_done (hR2 _ ?_)
 clear hR2 R2
 try simp only [thenK, scopeK]
 refine hN1 _ ?_
 clear hN1 N1
 refine pwp_then fun N3 hN3 => ?_
 refine pwp_reg fun R4 hR4 => ?_
 refine pops_to rfl fun M hM => ?_
 simp only [pop, St.eval, constSlot, upd_at, Nat.reduceEqDiff, if_true, if_false, popFieldAddr, fieldOf, List.drop_succ_cons, List.drop_zero, List.getElem?_toArray, List.getElem?_cons_zero, List.getElem?_cons_succ, Tryd.underlying81, sz3, faultPV]
 refine ⟨⟨_, rfl⟩, hM _ _ ?_⟩
 clear hM M
 refine pops_to rfl fun M hM => ?_
 simp only [pop, St.eval, constSlot, upd_at, Nat.reduceEqDiff, if_true, if_false, popLoad, loadK, isAggD, List.drop_zero, List.getElem?_toArray, List.getElem?_cons_zero, List.getElem?_cons_succ, Bool.false_eq_true, Tryd.underlying3, sz3, eq_self, true_and, and_true, faultPV]
 refine hM _ _ ?_
 clear hM M
 refine pops_to rfl fun M hM => ?_
 simp only [pop, St.eval, constSlot, upd_at, Nat.reduceEqDiff, if_true, if_false, popFieldAddr, fieldOf, List.drop_succ_cons, List.drop_zero, List.getElem?_toArray, List.getElem?_cons_zero, List.getElem?_cons_succ, Tryd.underlying81, sz3, faultPV]
 refine ⟨⟨_, rfl⟩, hM _ _ ?_⟩
 clear hM M
 refine pops_to rfl fun M hM => ?_
 simp only [pop, St.eval, constSlot, upd_at, Nat.reduceEqDiff, if_true, if_false, popLoad, loadK, isAggD, List.drop_zero, List.getElem?_toArray, List.getElem?_cons_zero, List.getElem?_cons_succ, Bool.false_eq_true, Tryd.underlying3, sz3, eq_self, true_and, and_true, faultPV]
 refine hM _ _ ?_
 clear hM M
 refine pops_to rfl fun M hM => ?_
 simp only [pop, St.eval, constSlot, upd_at, Nat.reduceEqDiff, if_true, if_false, popBin, binK, intK, strK, eqK, Tryd.underlying3, isPtr, eq_self, true_and, and_true, faultPV]
 refine hM _ _ ?_
 clear hM M
 refine pops_mv (.inl rfl) rfl (by simp only [St.eval, upd_at, Nat.reduceEqDiff, if_true, if_false, faultPV] <;> rfl) ?_
 apply pops_and0 6 9 15 [10, 11, 12, 13, 14] (by simp only [upd_at, Nat.reduceEqDiff, if_true, if_false, faultPV] <;> rfl)
 ·skip
  intro g9_0 J5 hJ5
  simp only [List.take_succ_cons, List.take_zero]
  simp only [anyAt_cons, anyAt_nil] at hJ5
  refine pops_do rfl rfl (by simp only [upd_at, Nat.reduceEqDiff, if_true, if_false, faultPV, g9_0]) fun M hM => ?_
  simp only [pop, St.eval, constSlot, upd_at, Nat.reduceEqDiff, if_true, if_false, popFieldAddr, fieldOf, List.drop_succ_cons, List.drop_zero, List.getElem?_toArray, List.getElem?_cons_zero, List.getElem?_cons_succ, Tryd.underlying81, sz3, faultPV, g9_0]
  refine ⟨⟨_, rfl⟩, hM _ _ ?_⟩
  clear hM M
  refine pops_do rfl rfl (by simp only [upd_at, Nat.reduceEqDiff, if_true, if_false, faultPV, g9_0]) fun M hM => ?_
  simp only [pop, St.eval, constSlot, upd_at, Nat.reduceEqDiff, if_true, if_false, popLoad, loadK, isAggD, List.drop_zero, List.getElem?_toArray, List.getElem?_cons_zero, List.getElem?_cons_succ, Bool.false_eq_true, Tryd.underlying3, sz3, eq_self, true_and, and_true, faultPV, g9_0]
  refine hM _ _ ?_
  clear hM M
  refine pops_do rfl rfl (by simp only [upd_at, Nat.reduceEqDiff, if_true, if_false, faultPV, g9_0]) fun M hM => ?_
  simp only [pop, St.eval, constSlot, upd_at, Nat.reduceEqDiff, if_true, if_false, popFieldAddr, fieldOf, List.drop_succ_cons, List.drop_zero, List.getElem?_toArray, List.getElem?_cons_zero, List.getElem?_cons_succ, Tryd.underlying81, sz3, faultPV, g9_0]
  refine ⟨⟨_, rfl⟩, hM _ _ ?_⟩
  clear hM M
  refine pops_do rfl rfl (by simp only [upd_at, Nat.reduceEqDiff, if_true, if_false, faultPV, g9_0]) fun M hM => ?_
  simp only [pop, St.eval, constSlot, upd_at, Nat.reduceEqDiff, if_true, if_false, popLoad, loadK, isAggD, List.drop_zero, List.getElem?_toArray, List.getElem?_cons_zero, List.getElem?_cons_succ, Bool.false_eq_true, Tryd.underlying3, sz3, eq_self, true_and, and_true, faultPV, g9_0]
  refine hM _ _ ?_
  clear hM M
  refine pops_do rfl rfl (by simp only [upd_at, Nat.reduceEqDiff, if_true, if_false, faultPV, g9_0]) fun M hM => ?_
  simp only [pop, St.eval, constSlot, upd_at, Nat.reduceEqDiff, if_true, if_false, popBin, binK, intK, strK, eqK, Tryd.underlying3, isPtr, eq_self, true_and, and_true, faultPV, g9_0]
  refine hM _ _ ?_
  clear hM M
  refine pops_to rfl fun M hM => ?_
  simp only [pop, St.eval, constSlot, upd_at, Nat.reduceEqDiff, if_true, if_false, popIf, true_implies, false_implies, Bool.true_eq_false, Bool.false_eq_true, reduceCtorEq, true_and, and_true, faultPV, g9_0]
  refine hM _ _ ?_
  clear hM M
  exact pops_done (hJ5 _ (wk_same (wk_any ((wk_any ((wk_any ((wk_any ((wk_any (Wk.refl _ _))))))))))))
 ·skip
  intro g9_0 J5 hJ5
  simp only [List.take_succ_cons, List.take_zero]
  simp only [anyAt_cons, anyAt_nil] at hJ5
  refine pops_off (b := false) rfl rfl (by simp only [upd_at, Nat.reduceEqDiff, if_true, if_false, faultPV, g9_0]) (by decide) ?_
  refine pops_off (b := false) rfl rfl (by simp only [upd_at, Nat.reduceEqDiff, if_true, if_false, faultPV, g9_0]) (by decide) ?_
  refine pops_off (b := false) rfl rfl (by simp only [upd_at, Nat.reduceEqDiff, if_true, if_false, faultPV, g9_0]) (by decide) ?_
  refine pops_off (b := false) rfl rfl (by simp only [upd_at, Nat.reduceEqDiff, if_true, if_false, faultPV, g9_0]) (by decide) ?_
  refine pops_off (b := false) rfl rfl (by simp only [upd_at, Nat.reduceEqDiff, if_true, if_false, faultPV, g9_0]) (by decide) ?_
  refine pops_to rfl fun M hM => ?_
  simp only [pop, St.eval, constSlot, upd_at, Nat.reduceEqDiff, if_true, if_false, popIf, true_implies, false_implies, Bool.true_eq_false, Bool.false_eq_true, reduceCtorEq, true_and, and_true, faultPV, g9_0]
  refine hM _ _ ?_
  clear hM M
  exact pops_done (hJ5 _ (wk_same (wk_any ((wk_any ((wk_any ((wk_any ((wk_any (Wk.refl _ _))))))))))))
 simp only [List.drop_succ_cons, List.drop_zero, anyAt_cons, anyAt_nil]
 refine pops_mv (.inr rfl) rfl (by simp only [St.eval, upd_at, Nat.reduceEqDiff, if_true, if_false, faultPV] <;> rfl) ?_
 refine pops_done (hR4 _ ?_)
 clear hR4 R4
 try simp only [thenK, scopeK]
 refine hN3 _ ?_
 clear hN3 N3
 refine pwp_ret ?_
 simp only [thenK, blockK, scopeK, bodyK]
 refine ⟨_, rfl, endFun (Same.refl _) ?_⟩
 try simp only [upd_at, Nat.reduceEqDiff, if_true, if_false, faultPV]
 all_goals
  rfl

theorem nm69 : (Tryd.f69.name == "runtime.NumGoroutine") = false := by kernel_rfl
theorem sameFRef_fun (W0 : World) (f g : Fault) :
  PFun Tryd.prog W0 69 [.agg (faultPV g), .one (.rop (faultPV f))] (.sv (.one (pbool (sameF f g)))) := by
 intro h
 refine pcalls2 (n := 16) Tryd.func69 rfl nm69 rfl fun hb => ?_
 refine pwp_then fun N1 hN1 => ?_
 refine pwp_reg fun R2 hR2 => ?_
 refine pops_to rfl fun M hM => ?_
 simp only [pop, St.eval, constSlot, upd_at, Nat.reduceEqDiff, if_true, if_false, popBox, popBoxRo, slotCells, faultPV]
 refine .inr ⟨Nat.succ_pos _, hM _ _ ?_⟩
 clear hM M
 refine pops_mv (.inr rfl) rfl (by simp only [St.eval, constSlot] <;> rfl) ?_
 refine pops_done (hR2 _ ?_)
 clear hR2 R2
 try simp only [thenK, scopeK]
 refine hN1 _ ?_
 clear hN1 N1
 refine pwp_then fun N3 hN3 => ?_
 refine pwp_reg fun R4 hR4 => ?_
 refine pops_to rfl fun M hM => ?_
 simp only [pop, St.eval, constSlot, upd_at, Nat.reduceEqDiff, if_true, if_false, popFieldAddr, fieldOf, List.drop_succ_cons, List.drop_zero, List.getElem?_toArray, List.getElem?_cons_zero, List.getElem?_cons_succ, Tryd.underlying81, sz3, faultPV]
 refine ⟨⟨_, rfl⟩, hM _ _ ?_⟩
 clear hM M
 refine pops_to rfl fun M hM => ?_
 simp only [pop, St.eval, constSlot, upd_at, Nat.reduceEqDiff, if_true, if_false, popLoad, loadK, isAggD, List.drop_zero, List.getElem?_toArray, List.getElem?_cons_zero, List.getElem?_cons_succ, Bool.false_eq_true, Tryd.underlying3, sz3, eq_self, true_and, and_true, faultPV]
 refine hM _ _ ?_
 clear hM M
 refine pops_to rfl fun M hM => ?_
 simp only [pop, St.eval, constSlot, upd_at, Nat.reduceEqDiff, if_true, if_false, popFieldAddr, fieldOf, List.drop_succ_cons, List.drop_zero, List.getElem?_toArray, List.getElem?_cons_zero, List.getElem?_cons_succ, Tryd.underlying81, sz3, faultPV]
 refine ⟨⟨_, rfl⟩, hM _ _ ?_⟩
 clear hM M
 refine pops_to rfl fun M hM => ?_
 simp only [pop, St.eval, constSlot, upd_at, Nat.reduceEqDiff, if_true, if_false, popLoad, loadK, isAggD, List.drop_zero, List.getElem?_toArray, List.getElem?_cons_zero, List.getElem?_cons_succ, Bool.false_eq_true, Tryd.underlying3, sz3, eq_self, true_and, and_true, faultPV]
 refine hM _ _ ?_
 clear hM M
 refine pops_to rfl fun M hM => ?_
 simp only [pop, St.eval, constSlot, upd_at, Nat.reduceEqDiff, if_true, if_false, popBin, binK, intK, strK, eqK, Tryd.underlying3, isPtr, eq_self, true_and, and_true, faultPV]
 refine hM _ _ ?_
 clear hM M
 refine pops_mv (.inl rfl) rfl (by simp only [St.eval, upd_at, Nat.reduceEqDiff, if_true, if_false, faultPV] <;> rfl) ?_
 apply pops_and0 6 9 15 [10, 11, 12, 13, 14] (by simp only [upd_at, Nat.reduceEqDiff, if_true, if_false, faultPV] <;> rfl)
 ·skip
  intro g9_0 J5 hJ5
  simp only [List.take_succ_cons, List.take_zero]
  simp only [anyAt_cons, anyAt_nil] at hJ5
  refine pops_do rfl rfl (by simp only [upd_at, Nat.reduceEqDiff, if_true, if_false, faultPV, g9_0]) fun M hM => ?_
  simp only [pop, St.eval, constSlot, upd_at, Nat.reduceEqDiff, if_true, if_false, popFieldAddr, fieldOf, List.drop_succ_cons, List.drop_zero, List.getElem?_toArray, List.getElem?_cons_zero, List.getElem?_cons_succ, Tryd.underlying81, sz3, faultPV, g9_0]
  refine ⟨⟨_, rfl⟩, hM _ _ ?_⟩
  clear hM M
  refine pops_do rfl rfl (by simp only [upd_at, Nat.reduceEqDiff, if_true, if_false, faultPV, g9_0]) fun M hM => ?_
  simp only [pop, St.eval, constSlot, upd_at, Nat.reduceEqDiff, if_true, if_false, popLoad, loadK, isAggD, List.drop_zero, List.getElem?_toArray, List.getElem?_cons_zero, List.getElem?_cons_succ, Bool.false_eq_true, Tryd.underlying3, sz3, eq_self, true_and, and_true, faultPV, g9_0]
  refine hM _ _ ?_
  clear hM M
  refine pops_do rfl rfl (by simp only [upd_at, Nat.reduceEqDiff, if_true, if_false, faultPV, g9_0]) fun M hM => ?_
  simp only [pop, St.eval, constSlot, upd_at, Nat.reduceEqDiff, if_true, if_false, popFieldAddr, fieldOf, List.drop_succ_cons, List.drop_zero, List.getElem?_toArray, List.getElem?_cons_zero, List.getElem?_cons_succ, Tryd.underlying81, sz3, faultPV, g9_0]
  refine ⟨⟨_, rfl⟩, hM _ _ ?_⟩
  clear hM M
  refine pops_do rfl rfl (by simp only [upd_at, Nat.reduceEqDiff, if_true, if_false, faultPV, g9_0]) fun M hM => ?_
  simp only [pop, St.eval, constSlot, upd_at, Nat.reduceEqDiff, if_true, if_false, popLoad, loadK, isAggD, List.drop_zero, List.getElem?_toArray, List.getElem?_cons_zero, List.getElem?_cons_succ, Bool.false_eq_true, Tryd.underlying3, sz3, eq_self, true_and, and_true, faultPV, g9_0]
  refine hM _ _ ?_
  clear hM M
  refine pops_do rfl rfl (by simp only [upd_at, Nat.reduceEqDiff, if_true, if_false, faultPV, g9_0]) fun M hM => ?_
  simp only [pop, St.eval, constSlot, upd_at, Nat.reduceEqDiff, if_true, if_false, popBin, binK, intK, strK, eqK, Tryd.underlying3, isPtr, eq_self, true_and, and_true, faultPV, g9_0]
  refine hM _ _ ?_
  clear hM M
  refine pops_to rfl fun M hM => ?_
  simp only [pop, St.eval, constSlot, upd_at, Nat.reduceEqDiff, if_true, if_false, popIf, true_implies, false_implies, Bool.true_eq_false, Bool.false_eq_true, reduceCtorEq, true_and, and_true, faultPV, g9_0]
  refine hM _ _ ?_
  clear hM M
  exact pops_done (hJ5 _ (wk_same (wk_any ((wk_any ((wk_any ((wk_any ((wk_any (Wk.refl _ _))))))))))))
 ·skip
  intro g9_0 J5 hJ5
  simp only [List.take_succ_cons, List.take_zero]
  simp only [anyAt_cons, anyAt_nil] at hJ5
  refine pops_off (b := false) rfl rfl (by simp only [upd_at, Nat.reduceEqDiff, if_true, if_false, faultPV, g9_0]) (by decide) ?_
  refine pops_off (b := false) rfl rfl (by simp only [upd_at, Nat.reduceEqDiff, if_true, if_false, faultPV, g9_0]) (by decide) ?_
  refine pops_off (b := false) rfl rfl (by simp only [upd_at, Nat.reduceEqDiff, if_true, if_false, faultPV, g9_0]) (by decide) ?_
  refine pops_off (b := false) rfl rfl (by simp only [upd_at, Nat.reduceEqDiff, if_true, if_false, faultPV, g9_0]) (by decide) ?_
  refine pops_off (b := false) rfl rfl (by simp only [upd_at, Nat.reduceEqDiff, if_true, if_false, faultPV, g9_0]) (by decide) ?_
  refine pops_to rfl fun M hM => ?_
  simp only [pop, St.eval, constSlot, upd_at, Nat.reduceEqDiff, if_true, if_false, popIf, true_implies, false_implies, Bool.true_eq_false, Bool.false_eq_true, reduceCtorEq, true_and, and_true, faultPV, g9_0]
  refine hM _ _ ?_
  clear hM M
  exact pops_done (hJ5 _ (wk_same (wk_any ((wk_any ((wk_any ((wk_any ((wk_any (Wk.refl _ _))))))))))))
 simp only [List.drop_succ_cons, List.drop_zero, anyAt_cons, anyAt_nil]
 refine pops_mv (.inr rfl) rfl (by simp only [St.eval, upd_at, Nat.reduceEqDiff, if_true, if_false, faultPV] <;> rfl) ?_
 refine pops_done (hR4 _ ?_)
 clear hR4 R4
 try simp only [thenK, scopeK]
 refine hN3 _ ?_
 clear hN3 N3
 refine pwp_ret ?_
 simp only [thenK, blockK, scopeK, bodyK]
 refine ⟨_, rfl, endFun (Same.refl _) ?_⟩
 try simp only [upd_at, Nat.reduceEqDiff, if_true, if_false, faultPV]
 all_goals
  rfl

theorem nm94 : (Tryd.f94.name == "runtime.NumGoroutine") = false := by kernel_rfl
theorem indexF_rel (W0 : World) (fn : FuncId) (caps : List PV) (p : Fault → Bool) (full : Bool) (l : List Fault) (hp : ∀ c ∈ l, PFun Tryd.prog W0 fn (.agg (faultPV c) :: caps.map .one) (.sv (.one (pbool (p c))))) (hn : l.length ≤ 9223372036854775807) (h : Hp) :
  PCalls Tryd.prog W0 94 [.one (.ro full 4 (l.map faultPV)), .one (.clo (.func fn) caps)] h (fun r h' => ∃ z, r = .sv (.one (pint z)) ∧ (0 ≤ z ↔ ∃ c ∈ l, p c = true) ∧ Same h h') := by
 refine pcalls2 (n := 19) Tryd.func94 rfl nm94 rfl fun hb => ?_
 refine pwp_then fun N1 hN1 => ?_
 refine pwp_reg fun R2 hR2 => ?_
 refine pops_mv (.inr rfl) rfl (by simp only [St.eval, constSlot] <;> rfl) ?_
 refine pops_done (hR2 _ ?_)
 clear hR2 R2
 try simp only [thenK, scopeK]
 refine hN1 _ ?_
 clear hN1 N1
 refine pwp_then fun N3 hN3 => ?_
 refine pwp_then fun N4 hN4 => ?_
 refine pwp_reg fun R5 hR5 => ?_
 refine pops_mv (.inl rfl) rfl (by simp only [St.eval, upd_at, Nat.reduceEqDiff, if_true, if_false] <;> rfl) ?_
 refine pops_to rfl fun M hM => ?_
 simp only [pop, St.eval, constSlot, upd_at, Nat.reduceEqDiff, if_true, if_false, popCall, List.toList_toArray, List.map_cons, List.map_nil, popBuiltin, popLen, lenOfSlot, List.length_map, Tryd.underlying40, eq_self, true_and, and_true, str_list, str_size, str_app, str_cut, str_get]
 refine hM _ _ ?_
 clear hM M
 refine pops_mv (.inl rfl) rfl (by simp only [St.eval, constSlot] <;> rfl) ?_
 refine pops_done (hR5 _ ?_)
 clear hR5 R5
 try simp only [thenK, scopeK]
 refine hN4 _ ?_
 clear hN4 N4
 refine pwp_block ?_
 refine pwp_loop (fun k σ => ∃ (i : Nat), (k = l.length - i) ∧ (i ≤ l.length) ∧ (∀ c ∈ l.take i, p c = false) ∧ (Same h σ.hp) ∧ (σ.env 0 = .sv (.one (.ro full 4 (l.map faultPV)))) ∧ (σ.env 1 = .sv (.one (.clo (.func fn) caps))) ∧ (σ.env 6 = .sv (.one (.ro full 4 (l.map faultPV)))) ∧ (σ.env 7 = .sv (.one (pint (l.length : Nat)))) ∧ (σ.env 8 = .sv (.one (pint (i : Nat))))) _ ⟨_, .refl _ _, 0, rfl, ?_⟩ ?_
 · exact ⟨Nat.zero_le _, by simp, (Same.refl _), by simp only [upd_at, Nat.reduceEqDiff, if_true, if_false], by simp only [upd_at, Nat.reduceEqDiff, if_true, if_false], by simp only [upd_at, Nat.reduceEqDiff, if_true, if_false], by simp only [upd_at, Nat.reduceEqDiff, if_true, if_false], by simp only [upd_at, Nat.reduceEqDiff, if_true, if_false]; rfl⟩
 ·rintro k ⟨e, hp0⟩ ⟨i, hk0, hx0_0, hx0_1, sl0, e0_0, e0_1, e0_6, e0_7, e0_8⟩
  simp only at sl0 e0_0 e0_1 e0_6 e0_7 e0_8
  refine pwp_then fun N6 hN6 => ?_
  refine pwp_reg fun R7 hR7 => ?_
  refine pops_to rfl fun M hM => ?_
  simp only [pop, St.eval, constSlot, upd_at, Nat.reduceEqDiff, if_true, if_false, popBin, binK, intK, strK, eqK, eq_self, true_and, and_true, e0_0, e0_1, e0_6, e0_7, e0_8]
  refine hM _ _ ?_
  clear hM M
  refine pops_done (hR7 _ ?_)
  clear hR7 R7
  try simp only [thenK, scopeK]
  refine hN6 _ ?_
  clear hN6 N6
  refine pwp_then fun N8 hN8 => ?_
  refine pwp_cond (by simp only [St.eval, upd_at, Nat.reduceEqDiff, if_true, if_false, e0_0, e0_1, e0_6, e0_7, e0_8] <;> rfl) (fun c9 => ?_) (fun c9 => ?_)
  ·skip
   have hi : i < l.length := by have := of_decide_eq_true c9; omega
   obtain ⟨f, hx⟩ : ∃ f, l[i]? = some f := ⟨_, List.getElem?_eq_getElem hi⟩
   have hget : (l.map faultPV)[i]? = some (faultPV f) := by simp only [List.getElem?_map, hx, Option.map_some]
   refine pwp_skip ?_
   try simp only [thenK, scopeK]
   refine hN8 _ ?_
   clear hN8 N8
   refine pwp_then fun N9 hN9 => ?_
   refine pwp_block ?_
   refine pwp_then fun N10 hN10 => ?_
   refine pwp_reg fun R11 hR11 => ?_
   refine pops_mv (.inl rfl) rfl (by simp only [St.eval, upd_at, Nat.reduceEqDiff, if_true, if_false, e0_0, e0_1, e0_6, e0_7, e0_8, hget, Int.toNat_natCast, faultPV] <;> rfl) ?_
   refine pops_mv (.inr rfl) rfl (by simp only [St.eval, upd_at, Nat.reduceEqDiff, if_true, if_false, e0_0, e0_1, e0_6, e0_7, e0_8, hget, Int.toNat_natCast, faultPV] <;> rfl) ?_
   refine pops_done (hR11 _ ?_)
   clear hR11 R11
   try simp only [thenK, scopeK]
   refine hN10 _ ?_
   clear hN10 N10
   refine pwp_then fun N12 hN12 => ?_
   refine pwp_reg fun R13 hR13 => ?_
   refine pops_mv (.inl rfl) rfl (by simp only [St.eval, upd_at, Nat.reduceEqDiff, if_true, if_false, e0_0, e0_1, e0_6, e0_7, e0_8, hget, Int.toNat_natCast, faultPV] <;> rfl) ?_
   refine pops_mv (.inl rfl) rfl (by simp only [St.eval, upd_at, Nat.reduceEqDiff, if_true, if_false, e0_0, e0_1, e0_6, e0_7, e0_8, hget, Int.toNat_natCast, faultPV] <;> rfl) ?_
   refine pops_mv (.inl rfl) rfl (by simp only [St.eval, upd_at, Nat.reduceEqDiff, if_true, if_false, e0_0, e0_1, e0_6, e0_7, e0_8, hget, Int.toNat_natCast, faultPV] <;> rfl) ?_
   refine pops_to rfl fun M hM => ?_
   simp only [pop, St.eval, constSlot, upd_at, Nat.reduceEqDiff, if_true, if_false, popIndexAddr, Tryd.underlying40, sz81, eq_self, true_and, and_true, str_list, str_size, str_app, str_cut, str_get, e0_0, e0_1, e0_6, e0_7, e0_8, hget, Int.toNat_natCast, faultPV]
   refine ⟨Int.natCast_nonneg _, hM _ _ ?_⟩
   clear hM M
   refine pops_to rfl fun M hM => ?_
   simp only [pop, St.eval, constSlot, upd_at, Nat.reduceEqDiff, if_true, if_false, List.length_cons, List.length_nil, Nat.zero_add, Nat.reduceAdd, Nat.reduceLeDiff, List.take_zero, List.take_succ_cons, List.take_nil, List.drop_succ_cons, List.drop_zero, List.drop_nil, List.nil_append, List.cons_append, List.append_nil, and_self, List.getElem?_cons_zero, List.getElem?_cons_succ, List.set_cons_zero, List.set_cons_succ, Option.some.injEq, popLoad, loadK, isAggD, List.drop_zero, List.getElem?_toArray, List.getElem?_cons_zero, List.getElem?_cons_succ, Bool.false_eq_true, Tryd.underlying81, sz81, eq_self, true_and, and_true, e0_0, e0_1, e0_6, e0_7, e0_8, hget, Int.toNat_natCast, faultPV]
   refine hM _ _ ?_
   clear hM M
   refine pops_to rfl fun M hM => ?_
   simp only [pop, St.eval, constSlot, upd_at, Nat.reduceEqDiff, if_true, if_false, popCall, List.toList_toArray, List.map_cons, List.map_nil, svs, List.mapM_cons, List.mapM_nil, Option.bind_eq_bind, Option.bind_some, Option.pure_def, List.append_nil, List.cons_append, List.nil_append, str_size, e0_0, e0_1, e0_6, e0_7, e0_8, hget, Int.toNat_natCast, faultPV]
   refine PFun.use (hp f (List.mem_of_getElem? hx)) fun h1 s1 => hM _ _ ?_
   replace s1 := Same.trans sl0 s1
   clear hM M
   refine pops_done (hR13 _ ?_)
   clear hR13 R13
   try simp only [thenK, scopeK]
   refine hN12 _ ?_
   clear hN12 N12
   refine pwp_cond (by simp only [St.eval, upd_at, Nat.reduceEqDiff, if_true, if_false, e0_0, e0_1, e0_6, e0_7, e0_8, hget, Int.toNat_natCast, faultPV] <;> rfl) (fun c16 => ?_) (fun c16 => ?_)
   ·skip
    refine pwp_then fun N14 hN14 => ?_
    refine pwp_reg fun R15 hR15 => ?_
    refine pops_mv (.inl rfl) rfl (by simp only [St.eval, upd_at, Nat.reduceEqDiff, if_true, if_false, e0_0, e0_1, e0_6, e0_7, e0_8, hget, Int.toNat_natCast, faultPV] <;> rfl) ?_
    refine pops_mv (.inr rfl) rfl (by simp only [St.eval, upd_at, Nat.reduceEqDiff, if_true, if_false, e0_0, e0_1, e0_6, e0_7, e0_8, hget, Int.toNat_natCast, faultPV] <;> rfl) ?_
    refine pops_done (hR15 _ ?_)
    clear hR15 R15
    try simp only [thenK, scopeK]
    refine hN14 _ ?_
    clear hN14 N14
    refine pwp_ret ?_
    simp only [thenK, blockK, scopeK, bodyK]
    clear hN9 N9 hN3 N3
    refine ⟨_, rfl, ?_⟩
    try simp only [upd_at, Nat.reduceEqDiff, if_true, if_false, e0_0, e0_1, e0_6, e0_7, e0_8, hget, Int.toNat_natCast, faultPV]
    exact ⟨_, _, .refl _ _ _, _, rfl, ⟨fun _ => ⟨f, List.mem_of_getElem? hx, c16⟩, fun _ => Int.natCast_nonneg _⟩, s1⟩
   ·skip
    refine pwp_skip ?_
    try simp only [blockK, thenK, scopeK]
    try simp only [thenK, scopeK]
    refine hN9 _ ?_
    clear hN9 N9
    refine pwp_reg fun R16 hR16 => ?_
    refine pops_to rfl fun M hM => ?_
    simp only [pop, St.eval, constSlot, upd_at, Nat.reduceEqDiff, if_true, if_false, popBin, binK, intK, strK, eqK, eq_self, true_and, and_true, e0_0, e0_1, e0_6, e0_7, e0_8, hget, Int.toNat_natCast, faultPV]
    refine hM _ _ ?_
    clear hM M
    refine pops_mv (.inl rfl) rfl (by simp only [St.eval, upd_at, Nat.reduceEqDiff, if_true, if_false, e0_0, e0_1, e0_6, e0_7, e0_8, hget, Int.toNat_natCast, faultPV] <;> rfl) ?_
    refine pops_done (hR16 _ ?_)
    clear hR16 R16
    try simp only [thenK, scopeK]
    exact ⟨_, by omega, _, .refl _ _, i + 1, rfl, by omega, by rw [List.take_add_one, hx]; simp only [Option.toList_some, List.mem_append, List.mem_singleton]; rintro y (hy | rfl); exact hx0_1 y hy; exact c16, s1, by simp only [upd_at, Nat.reduceEqDiff, if_true, if_false, e0_0, e0_1, e0_6, e0_7, e0_8, hget, Int.toNat_natCast, faultPV], by simp only [upd_at, Nat.reduceEqDiff, if_true, if_false, e0_0, e0_1, e0_6, e0_7, e0_8, hget, Int.toNat_natCast, faultPV], by simp only [upd_at, Nat.reduceEqDiff, if_true, if_false, e0_0, e0_1, e0_6, e0_7, e0_8, hget, Int.toNat_natCast, faultPV], by simp only [upd_at, Nat.reduceEqDiff, if_true, if_false, e0_0, e0_1, e0_6, e0_7, e0_8, hget, Int.toNat_natCast, faultPV], by simp only [upd_at, Nat.reduceEqDiff, if_true, if_false, e0_8]; rw [wrap_succ (by omega)]⟩
  ·skip
   have hi := of_decide_eq_false c9
   refine pwp_exit ?_
   try simp only [thenK, blockK, scopeK, if_true, Nat.reduceEqDiff, if_false]
   clear hN8 N8
   try simp only [blockK, scopeK, if_true, Nat.reduceEqDiff, if_false, thenK]
   try simp only [thenK, scopeK]
   refine hN3 _ ?_
   clear hN3 N3
   refine pwp_then fun N17 hN17 => ?_
   refine pwp_reg fun R18 hR18 => ?_
   refine pops_mv (.inr rfl) rfl (by simp only [St.eval, constSlot] <;> rfl) ?_
   refine pops_done (hR18 _ ?_)
   clear hR18 R18
   try simp only [thenK, scopeK]
   refine hN17 _ ?_
   clear hN17 N17
   refine pwp_ret ?_
   simp only [thenK, blockK, scopeK, bodyK]
   refine ⟨_, rfl, ?_⟩
   try simp only [upd_at, Nat.reduceEqDiff, if_true, if_false, e0_0, e0_1, e0_6, e0_7, e0_8]
   exact ⟨_, _, .refl _ _ _, _, rfl, ⟨fun x => by omega, fun ⟨x, h1, h2⟩ => by
     rw [List.take_of_length_le (by omega)] at hx0_1
     rw [hx0_1 x h1] at h2
     cases h2⟩, sl0⟩

theorem nm68 : (Tryd.f68.name == "runtime.NumGoroutine") = false := by kernel_rfl
theorem containsF_fun (W0 : World) (fn : FuncId) (caps : List PV) (p : Fault → Bool) (full : Bool) (l : List Fault) (hp : ∀ c ∈ l, PFun Tryd.prog W0 fn (.agg (faultPV c) :: caps.map .one) (.sv (.one (pbool (p c))))) (hn : l.length ≤ 9223372036854775807) :
  PFun Tryd.prog W0 68 [.one (.ro full 4 (l.map faultPV)), .one (.clo (.func fn) caps)] (.sv (.one (pbool (l.any p)))) := by
 intro h
 refine pcalls2 (n := 9) Tryd.func68 rfl nm68 rfl fun hb => ?_
 refine pwp_then fun N1 hN1 => ?_
 refine pwp_reg fun R2 hR2 => ?_
 refine pops_mv (.inr rfl) rfl (by simp only [St.eval, constSlot] <;> rfl) ?_
 refine pops_done (hR2 _ ?_)
 clear hR2 R2
 try simp only [thenK, scopeK]
 refine hN1 _ ?_
 clear hN1 N1
 refine pwp_then fun N3 hN3 => ?_
 refine pwp_reg fun R4 hR4 => ?_
 refine pops_mv (.inl rfl) rfl (by simp only [St.eval, upd_at, Nat.reduceEqDiff, if_true, if_false] <;> rfl) ?_
 refine pops_mv (.inl rfl) rfl (by simp only [St.eval, upd_at, Nat.reduceEqDiff, if_true, if_false] <;> rfl) ?_
 refine pops_to rfl fun M hM => ?_
 simp only [pop, St.eval, constSlot, upd_at, Nat.reduceEqDiff, if_true, if_false, popCall, List.toList_toArray, List.map_cons, List.map_nil, svs, List.mapM_cons, List.mapM_nil, Option.bind_eq_bind, Option.bind_some, Option.pure_def, List.append_nil, List.cons_append, List.nil_append, str_size]
 refine (indexF_rel W0 fn caps p full l hp hn _).mono ?_
 rintro _ h1 ⟨z, rfl, hz, s1⟩
 refine hM _ _ ?_
 clear hM M
 refine pops_to rfl fun M hM => ?_
 simp only [pop, St.eval, constSlot, upd_at, Nat.reduceEqDiff, if_true, if_false, popBin, binK, intK, strK, eqK, eq_self, true_and, and_true]
 refine hM _ _ ?_
 clear hM M
 refine pops_mv (.inr rfl) rfl (by simp only [St.eval, upd_at, Nat.reduceEqDiff, if_true, if_false] <;> rfl) ?_
 refine pops_done (hR4 _ ?_)
 clear hR4 R4
 try simp only [thenK, scopeK]
 refine hN3 _ ?_
 clear hN3 N3
 refine pwp_ret ?_
 simp only [thenK, blockK, scopeK, bodyK]
 refine ⟨_, rfl, endFun s1 ?_⟩
 try simp only [upd_at, Nat.reduceEqDiff, if_true, if_false]
 all_goals
  have e : decide (z ≥ 0) = l.any p := by
    rw [Bool.eq_iff_iff]
    simp only [decide_eq_true_eq, ge_iff_le, List.any_eq_true]
    exact hz
  rw [e]

theorem nm28 : (Tryd.f28.name == "runtime.NumGoroutine") = false := by kernel_rfl
theorem faultsRef_fun (W0 : World) (full : Bool) (l : List Fault) (hn : l.length ≤ 9223372036854775807) :
  PFun Tryd.prog W0 28 [.one (.ro full 4 (l.map faultPV))] (.sv (.one (pint (faultsE l)))) := by
 intro h
 refine pcalls1 (n := 64) Tryd.func28 rfl nm28 rfl fun hb => ?_
 refine pwp_then fun N1 hN1 => ?_
 refine pwp_reg fun R2 hR2 => ?_
 refine pops_mv (.inr rfl) rfl (by simp only [St.eval, constSlot] <;> rfl) ?_
 refine pops_done (hR2 _ ?_)
 clear hR2 R2
 try simp only [thenK, scopeK]
 refine hN1 _ ?_
 clear hN1 N1
 refine pwp_then fun N3 hN3 => ?_
 refine pwp_then fun N4 hN4 => ?_
 refine pwp_reg fun R5 hR5 => ?_
 refine pops_mv (.inl rfl) rfl (by simp only [St.eval, upd_at, Nat.reduceEqDiff, if_true, if_false] <;> rfl) ?_
 refine pops_to rfl fun M hM => ?_
 simp only [pop, St.eval, constSlot, upd_at, Nat.reduceEqDiff, if_true, if_false, popCall, List.toList_toArray, List.map_cons, List.map_nil, popBuiltin, popLen, lenOfSlot, List.length_map, Tryd.underlying40, eq_self, true_and, and_true, str_list, str_size, str_app, str_cut, str_get]
 refine hM _ _ ?_
 clear hM M
 refine pops_to rfl fun M hM => ?_
 simp only [pop, St.eval, constSlot, upd_at, Nat.reduceEqDiff, if_true, if_false, popBin, binK, intK, strK, eqK, eq_self, true_and, and_true]
 refine hM _ _ ?_
 clear hM M
 refine pops_done (hR5 _ ?_)
 clear hR5 R5
 try simp only [thenK, scopeK]
 refine hN4 _ ?_
 clear hN4 N4
 refine pwp_cond (by simp only [St.eval, upd_at, Nat.reduceEqDiff, if_true, if_false] <;> rfl) (fun c7 => ?_) (fun c7 => ?_)
 ·skip
  have he0 : faultsE l = 8 := by rw [faultsE, if_pos (by have := of_decide_eq_true c7; omega)]
  refine pwp_then fun N6 hN6 => ?_
  refine pwp_reg fun R7 hR7 => ?_
  refine pops_mv (.inr rfl) rfl (by simp only [St.eval, constSlot] <;> rfl) ?_
  refine pops_done (hR7 _ ?_)
  clear hR7 R7
  try simp only [thenK, scopeK]
  refine hN6 _ ?_
  clear hN6 N6
  refine pwp_ret ?_
  simp only [thenK, blockK, scopeK, bodyK]
  clear hN3 N3
  refine ⟨_, rfl, endFun (Same.refl _) ?_⟩
  try simp only [upd_at, Nat.reduceEqDiff, if_true, if_false]
  all_goals
   rw [he0]
 ·skip
  have hl0 : l.length ≤ 1000 := by have := of_decide_eq_false c7; omega
  refine pwp_skip ?_
  try simp only [thenK, scopeK]
  refine hN3 _ ?_
  clear hN3 N3
  refine pwp_then fun N8 hN8 => ?_
  refine pwp_then fun N9 hN9 => ?_
  refine pwp_reg fun R10 hR10 => ?_
  refine pops_mv (.inl rfl) rfl (by simp only [St.eval, upd_at, Nat.reduceEqDiff, if_true, if_false] <;> rfl) ?_
  refine pops_to rfl fun M hM => ?_
  simp only [pop, St.eval, constSlot, upd_at, Nat.reduceEqDiff, if_true, if_false, popCall, List.toList_toArray, List.map_cons, List.map_nil, popBuiltin, popLen, lenOfSlot, List.length_map, Tryd.underlying40, eq_self, true_and, and_true, str_list, str_size, str_app, str_cut, str_get]
  refine hM _ _ ?_
  clear hM M
  refine pops_mv (.inl rfl) rfl (by simp only [St.eval, constSlot] <;> rfl) ?_
  refine pops_done (hR10 _ ?_)
  clear hR10 R10
  try simp only [thenK, scopeK]
  refine hN9 _ ?_
  clear hN9 N9
  refine pwp_block ?_
  refine pwp_loop (fun k σ => ∃ (i : Nat), (k = l.length - i) ∧ (i ≤ l.length) ∧ (fsE (l.take i) (l.drop i) = fsE [] l) ∧ (Same h σ.hp) ∧ (σ.env 0 = .sv (.one (.ro full 4 (l.map faultPV)))) ∧ (σ.env 8 = .sv (.one (.ro full 4 (l.map faultPV)))) ∧ (σ.env 9 = .sv (.one (pint (l.length : Nat)))) ∧ (σ.env 10 = .sv (.one (pint (i : Nat))))) _ ⟨_, .refl _ _, 0, rfl, ?_⟩ ?_
  · exact ⟨Nat.zero_le _, rfl, (Same.refl _), by simp only [upd_at, Nat.reduceEqDiff, if_true, if_false], by simp only [upd_at, Nat.reduceEqDiff, if_true, if_false], by simp only [upd_at, Nat.reduceEqDiff, if_true, if_false], by simp only [upd_at, Nat.reduceEqDiff, if_true, if_false]; rfl⟩
  ·rintro k ⟨e, hp0⟩ ⟨i, hk0, hx0_0, hx0_1, sl0, e0_0, e0_8, e0_9, e0_10⟩
   simp only at sl0 e0_0 e0_8 e0_9 e0_10
   refine pwp_then fun N11 hN11 => ?_
   refine pwp_reg fun R12 hR12 => ?_
   refine pops_to rfl fun M hM => ?_
   simp only [pop, St.eval, constSlot, upd_at, Nat.reduceEqDiff, if_true, if_false, popBin, binK, intK, strK, eqK, eq_self, true_and, and_true, e0_0, e0_8, e0_9, e0_10]
   refine hM _ _ ?_
   clear hM M
   refine pops_done (hR12 _ ?_)
   clear hR12 R12
   try simp only [thenK, scopeK]
   refine hN11 _ ?_
   clear hN11 N11
   refine pwp_then fun N13 hN13 => ?_
   refine pwp_cond (by simp only [St.eval, upd_at, Nat.reduceEqDiff, if_true, if_false, e0_0, e0_8, e0_9, e0_10] <;> rfl) (fun c11 => ?_) (fun c11 => ?_)
   ·skip
    have hi : i < l.length := by have := of_decide_eq_true c11; omega
    obtain ⟨f, hx⟩ : ∃ f, l[i]? = some f := ⟨_, List.getElem?_eq_getElem hi⟩
    have hget : (l.map faultPV)[i]? = some (faultPV f) := by simp only [List.getElem?_map, hx, Option.map_some]
    refine pwp_skip ?_
    try simp only [thenK, scopeK]
    refine hN13 _ ?_
    clear hN13 N13
    refine pwp_then fun N14 hN14 => ?_
    refine pwp_block ?_
    refine pwp_then fun N15 hN15 => ?_
    refine pwp_reg fun R16 hR16 => ?_
    refine pops_mv (.inl rfl) rfl (by simp only [St.eval, upd_at, Nat.reduceEqDiff, if_true, if_false, e0_0, e0_8, e0_9, e0_10, hget, Int.toNat_natCast, faultPV] <;> rfl) ?_
    refine pops_to rfl fun M hM => ?_
    simp only [pop, St.eval, constSlot, upd_at, Nat.reduceEqDiff, if_true, if_false, popIndexAddr, Tryd.underlying40, sz81, eq_self, true_and, and_true, str_list, str_size, str_app, str_cut, str_get, e0_0, e0_8, e0_9, e0_10, hget, Int.toNat_natCast, faultPV]
    refine ⟨Int.natCast_nonneg _, hM _ _ ?_⟩
    clear hM M
    refine pops_to rfl fun M hM => ?_
    simp only [pop, St.eval, constSlot, upd_at, Nat.reduceEqDiff, if_true, if_false, List.length_cons, List.length_nil, Nat.zero_add, Nat.reduceAdd, Nat.reduceLeDiff, List.take_zero, List.take_succ_cons, List.take_nil, List.drop_succ_cons, List.drop_zero, List.drop_nil, List.nil_append, List.cons_append, List.append_nil, and_self, List.getElem?_cons_zero, List.getElem?_cons_succ, List.set_cons_zero, List.set_cons_succ, Option.some.injEq, popLoad, loadK, isAggD, List.drop_zero, List.getElem?_toArray, List.getElem?_cons_zero, List.getElem?_cons_succ, Bool.false_eq_true, Tryd.underlying81, sz81, eq_self, true_and, and_true, e0_0, e0_8, e0_9, e0_10, hget, Int.toNat_natCast, faultPV]
    refine hM _ _ ?_
    clear hM M
    refine pops_valloc rfl ze81 (zs := [PV.val (.int .i64 0), PV.val (.int .i64 0), PV.val (.int .i64 0), PV.val (.int .i64 0)]) (by kernel_rfl) (by exact Nat.succ_pos _) (fun id17 hid17 => ?_)
    refine pops_mv (.inr rfl) rfl (by simp only [St.eval, upd_at, Nat.reduceEqDiff, if_true, if_false, e0_0, e0_8, e0_9, e0_10, hget, Int.toNat_natCast, faultPV] <;> rfl) ?_
    refine pops_vstore (hpOk.same hb sl0) hid17 (by simp only [upd_at, Nat.reduceEqDiff, if_true, if_false, e0_0, e0_8, e0_9, e0_10, hget, Int.toNat_natCast, faultPV]) (by simp only [St.eval, constSlot, slotCells, upd_at, Nat.reduceEqDiff, if_true, if_false, e0_0, e0_8, e0_9, e0_10, hget, Int.toNat_natCast, faultPV] <;> rfl) (by rfl) (by rw [sz81]; rfl) (fun hv18 sv18 => ?_)
    replace sv18 := Same.trans sl0 sv18
    refine pops_done (hR16 _ ?_)
    clear hR16 R16
    try simp only [thenK, scopeK]
    refine hN15 _ ?_
    clear hN15 N15
    refine pwp_block ?_
    refine pwp_then fun N19 hN19 => ?_
    refine pwp_reg fun R20 hR20 => ?_
    refine pops_to rfl fun M hM => ?_
    simp only [pop, St.eval, constSlot, upd_at, Nat.reduceEqDiff, if_true, if_false, popFieldAddr, fieldOf, List.drop_succ_cons, List.drop_zero, List.getElem?_toArray, List.getElem?_cons_zero, List.getElem?_cons_succ, Tryd.underlying81, sz3, e0_0, e0_8, e0_9, e0_10, hget, Int.toNat_natCast, faultPV]
    refine ⟨⟨_, rfl⟩, hM _ _ ?_⟩
    clear hM M
    refine pops_to rfl fun M hM => ?_
    simp only [pop, St.eval, constSlot, upd_at, Nat.reduceEqDiff, if_true, if_false, popLoad, loadK, isAggD, List.drop_zero, List.getElem?_toArray, List.getElem?_cons_zero, List.getElem?_cons_succ, Bool.false_eq_true, Tryd.underlying3, sz3, eq_self, true_and, and_true, e0_0, e0_8, e0_9, e0_10, hget, Int.toNat_natCast, faultPV]
    refine hM _ _ ?_
    clear hM M
    refine pops_to rfl fun M hM => ?_
    simp only [pop, St.eval, constSlot, upd_at, Nat.reduceEqDiff, if_true, if_false, popBin, binK, intK, strK, eqK, eq_self, true_and, and_true, e0_0, e0_8, e0_9, e0_10, hget, Int.toNat_natCast, faultPV]
    refine hM _ _ ?_
    clear hM M
    refine pops_mv (.inl rfl) rfl (by simp only [St.eval, upd_at, Nat.reduceEqDiff, if_true, if_false, e0_0, e0_8, e0_9, e0_10, hget, Int.toNat_natCast, faultPV] <;> rfl) ?_
    apply pops_or0 4 19 23 [20, 21, 22] (by simp only [upd_at, Nat.reduceEqDiff, if_true, if_false, e0_0, e0_8, e0_9, e0_10, hget, Int.toNat_natCast, faultPV] <;> rfl)
    ·skip
     intro g19_0 J21 hJ21
     simp only [List.take_succ_cons, List.take_zero]
     simp only [anyAt_cons, anyAt_nil] at hJ21
     refine pops_do rfl rfl (by simp only [upd_at, Nat.reduceEqDiff, if_true, if_false, e0_0, e0_8, e0_9, e0_10, hget, Int.toNat_natCast, faultPV, g19_0]) fun M hM => ?_
     simp only [pop, St.eval, constSlot, upd_at, Nat.reduceEqDiff, if_true, if_false, popFieldAddr, fieldOf, List.drop_succ_cons, List.drop_zero, List.getElem?_toArray, List.getElem?_cons_zero, List.getElem?_cons_succ, Tryd.underlying81, sz3, e0_0, e0_8, e0_9, e0_10, hget, Int.toNat_natCast, faultPV, g19_0]
     refine ⟨⟨_, rfl⟩, hM _ _ ?_⟩
     clear hM M
     refine pops_do rfl rfl (by simp only [upd_at, Nat.reduceEqDiff, if_true, if_false, e0_0, e0_8, e0_9, e0_10, hget, Int.toNat_natCast, faultPV, g19_0]) fun M hM => ?_
     simp only [pop, St.eval, constSlot, upd_at, Nat.reduceEqDiff, if_true, if_false, popLoad, loadK, isAggD, List.drop_zero, List.getElem?_toArray, List.getElem?_cons_zero, List.getElem?_cons_succ, Bool.false_eq_true, Tryd.underlying3, sz3, eq_self, true_and, and_true, e0_0, e0_8, e0_9, e0_10, hget, Int.toNat_natCast, faultPV, g19_0]
     refine hM _ _ ?_
     clear hM M
     refine pops_do rfl rfl (by simp only [upd_at, Nat.reduceEqDiff, if_true, if_false, e0_0, e0_8, e0_9, e0_10, hget, Int.toNat_natCast, faultPV, g19_0]) fun M hM => ?_
     simp only [pop, St.eval, constSlot, upd_at, Nat.reduceEqDiff, if_true, if_false, popBin, binK, intK, strK, eqK, eq_self, true_and, and_true, e0_0, e0_8, e0_9, e0_10, hget, Int.toNat_natCast, faultPV, g19_0]
     refine hM _ _ ?_
     clear hM M
     refine pops_to rfl fun M hM => ?_
     simp only [pop, St.eval, constSlot, upd_at, Nat.reduceEqDiff, if_true, if_false, popIf, true_implies, false_implies, Bool.true_eq_false, Bool.false_eq_true, reduceCtorEq, true_and, and_true, e0_0, e0_8, e0_9, e0_10, hget, Int.toNat_natCast, faultPV, g19_0]
     refine hM _ _ ?_
     clear hM M
     exact pops_done (hJ21 _ (wk_same (wk_any ((wk_any ((wk_any (Wk.refl _ _))))))))
    ·skip
     intro g19_0 J21 hJ21
     simp only [List.take_succ_cons, List.take_zero]
     simp only [anyAt_cons, anyAt_nil] at hJ21
     refine pops_off (b := true) rfl rfl (by simp only [upd_at, Nat.reduceEqDiff, if_true, if_false, e0_0, e0_8, e0_9, e0_10, hget, Int.toNat_natCast, faultPV, g19_0]) (by decide) ?_
     refine pops_off (b := true) rfl rfl (by simp only [upd_at, Nat.reduceEqDiff, if_true, if_false, e0_0, e0_8, e0_9, e0_10, hget, Int.toNat_natCast, faultPV, g19_0]) (by decide) ?_
     refine pops_off (b := true) rfl rfl (by simp only [upd_at, Nat.reduceEqDiff, if_true, if_false, e0_0, e0_8, e0_9, e0_10, hget, Int.toNat_natCast, faultPV, g19_0]) (by decide) ?_
     refine pops_to rfl fun M hM => ?_
     simp only [pop, St.eval, constSlot, upd_at, Nat.reduceEqDiff, if_true, if_false, popIf, true_implies, false_implies, Bool.true_eq_false, Bool.false_eq_true, reduceCtorEq, true_and, and_true, e0_0, e0_8, e0_9, e0_10, hget, Int.toNat_natCast, faultPV, g19_0]
     refine hM _ _ ?_
     clear hM M
     exact pops_done (hJ21 _ (wk_same (wk_any ((wk_any ((wk_any (Wk.refl _ _))))))))
    simp only [List.drop_succ_cons, List.drop_zero, anyAt_cons, anyAt_nil]
    refine pops_mv (.inr rfl) rfl (by simp only [St.eval, upd_at, Nat.reduceEqDiff, if_true, if_false, e0_0, e0_8, e0_9, e0_10, hget, Int.toNat_natCast, faultPV] <;> rfl) ?_
    refine pops_done (hR20 _ ?_)
    clear hR20 R20
    try simp only [thenK, scopeK]
    refine hN19 _ ?_
    clear hN19 N19
    refine pwp_cond (by simp only [St.eval, upd_at, Nat.reduceEqDiff, if_true, if_false, e0_0, e0_8, e0_9, e0_10, hget, Int.toNat_natCast, faultPV] <;> rfl) (fun c15 => ?_) (fun c15 => ?_)
    ·skip
     rw [call_ref] at c15
     have hfe : fE (l.take i) f = 5 := by rw [fE, if_pos c15]
     have he0 : faultsE l = 5 := by rw [faultsE, if_neg (by omega)]; exact fsE_hit hx hfe (by decide) hx0_1
     refine pwp_then fun N22 hN22 => ?_
     refine pwp_reg fun R23 hR23 => ?_
     refine pops_mv (.inr rfl) rfl (by simp only [St.eval, constSlot] <;> rfl) ?_
     refine pops_done (hR23 _ ?_)
     clear hR23 R23
     try simp only [thenK, scopeK]
     refine hN22 _ ?_
     clear hN22 N22
     refine pwp_ret ?_
     simp only [thenK, blockK, scopeK, bodyK]
     clear hN14 N14 hN8 N8
     refine ⟨_, rfl, endFun sv18 ?_⟩
     try simp only [upd_at, Nat.reduceEqDiff, if_true, if_false, e0_0, e0_8, e0_9, e0_10, hget, Int.toNat_natCast, faultPV]
     all_goals
      rw [he0]
    ·skip
     rw [call_ref] at c15
     skip
     refine pwp_then fun N24 hN24 => ?_
     refine pwp_reg fun R25 hR25 => ?_
     refine pops_to rfl fun M hM => ?_
     simp only [pop, St.eval, constSlot, upd_at, Nat.reduceEqDiff, if_true, if_false, popFieldAddr, fieldOf, List.drop_succ_cons, List.drop_zero, List.getElem?_toArray, List.getElem?_cons_zero, List.getElem?_cons_succ, Tryd.underlying81, sz3, e0_0, e0_8, e0_9, e0_10, hget, Int.toNat_natCast, faultPV]
     refine ⟨⟨_, rfl⟩, hM _ _ ?_⟩
     clear hM M
     refine pops_to rfl fun M hM => ?_
     simp only [pop, St.eval, constSlot, upd_at, Nat.reduceEqDiff, if_true, if_false, popLoad, loadK, isAggD, List.drop_zero, List.getElem?_toArray, List.getElem?_cons_zero, List.getElem?_cons_succ, Bool.false_eq_true, Tryd.underlying3, sz3, eq_self, true_and, and_true, e0_0, e0_8, e0_9, e0_10, hget, Int.toNat_natCast, faultPV]
     refine hM _ _ ?_
     clear hM M
     refine pops_to rfl fun M hM => ?_
     simp only [pop, St.eval, constSlot, upd_at, Nat.reduceEqDiff, if_true, if_false, popBin, binK, intK, strK, eqK, eq_self, true_and, and_true, e0_0, e0_8, e0_9, e0_10, hget, Int.toNat_natCast, faultPV]
     refine hM _ _ ?_
     clear hM M
     refine pops_mv (.inl rfl) rfl (by simp only [St.eval, upd_at, Nat.reduceEqDiff, if_true, if_false, e0_0, e0_8, e0_9, e0_10, hget, Int.toNat_natCast, faultPV] <;> rfl) ?_
     apply pops_or0 4 28 32 [29, 30, 31] (by simp only [upd_at, Nat.reduceEqDiff, if_true, if_false, e0_0, e0_8, e0_9, e0_10, hget, Int.toNat_natCast, faultPV] <;> rfl)
     ·skip
      intro g28_0 J26 hJ26
      simp only [List.take_succ_cons, List.take_zero]
      simp only [anyAt_cons, anyAt_nil] at hJ26
      refine pops_do rfl rfl (by simp only [upd_at, Nat.reduceEqDiff, if_true, if_false, e0_0, e0_8, e0_9, e0_10, hget, Int.toNat_natCast, faultPV, g28_0]) fun M hM => ?_
      simp only [pop, St.eval, constSlot, upd_at, Nat.reduceEqDiff, if_true, if_false, popFieldAddr, fieldOf, List.drop_succ_cons, List.drop_zero, List.getElem?_toArray, List.getElem?_cons_zero, List.getElem?_cons_succ, Tryd.underlying81, sz3, e0_0, e0_8, e0_9, e0_10, hget, Int.toNat_natCast, faultPV, g28_0]
      refine ⟨⟨_, rfl⟩, hM _ _ ?_⟩
      clear hM M
      refine pops_do rfl rfl (by simp only [upd_at, Nat.reduceEqDiff, if_true, if_false, e0_0, e0_8, e0_9, e0_10, hget, Int.toNat_natCast, faultPV, g28_0]) fun M hM => ?_
      simp only [pop, St.eval, constSlot, upd_at, Nat.reduceEqDiff, if_true, if_false, popLoad, loadK, isAggD, List.drop_zero, List.getElem?_toArray, List.getElem?_cons_zero, List.getElem?_cons_succ, Bool.false_eq_true, Tryd.underlying3, sz3, eq_self, true_and, and_true, e0_0, e0_8, e0_9, e0_10, hget, Int.toNat_natCast, faultPV, g28_0]
      refine hM _ _ ?_
      clear hM M
      refine pops_do rfl rfl (by simp only [upd_at, Nat.reduceEqDiff, if_true, if_false, e0_0, e0_8, e0_9, e0_10, hget, Int.toNat_natCast, faultPV, g28_0]) fun M hM => ?_
      simp only [pop, St.eval, constSlot, upd_at, Nat.reduceEqDiff, if_true, if_false, popBin, binK, intK, strK, eqK, eq_self, true_and, and_true, e0_0, e0_8, e0_9, e0_10, hget, Int.toNat_natCast, faultPV, g28_0]
      refine hM _ _ ?_
      clear hM M
      refine pops_to rfl fun M hM => ?_
      simp only [pop, St.eval, constSlot, upd_at, Nat.reduceEqDiff, if_true, if_false, popIf, true_implies, false_implies, Bool.true_eq_false, Bool.false_eq_true, reduceCtorEq, true_and, and_true, e0_0, e0_8, e0_9, e0_10, hget, Int.toNat_natCast, faultPV, g28_0]
      refine hM _ _ ?_
      clear hM M
      exact pops_done (hJ26 _ (wk_same (wk_any ((wk_any ((wk_any (Wk.refl _ _))))))))
     ·skip
      intro g28_0 J26 hJ26
      simp only [List.take_succ_cons, List.take_zero]
      simp only [anyAt_cons, anyAt_nil] at hJ26
      refine pops_off (b := true) rfl rfl (by simp only [upd_at, Nat.reduceEqDiff, if_true, if_false, e0_0, e0_8, e0_9, e0_10, hget, Int.toNat_natCast, faultPV, g28_0]) (by decide) ?_
      refine pops_off (b := true) rfl rfl (by simp only [upd_at, Nat.reduceEqDiff, if_true, if_false, e0_0, e0_8, e0_9, e0_10, hget, Int.toNat_natCast, faultPV, g28_0]) (by decide) ?_
      refine pops_off (b := true) rfl rfl (by simp only [upd_at, Nat.reduceEqDiff, if_true, if_false, e0_0, e0_8, e0_9, e0_10, hget, Int.toNat_natCast, faultPV, g28_0]) (by decide) ?_
      refine pops_to rfl fun M hM => ?_
      simp only [pop, St.eval, constSlot, upd_at, Nat.reduceEqDiff, if_true, if_false, popIf, true_implies, false_implies, Bool.true_eq_false, Bool.false_eq_true, reduceCtorEq, true_and, and_true, e0_0, e0_8, e0_9, e0_10, hget, Int.toNat_natCast, faultPV, g28_0]
      refine hM _ _ ?_
      clear hM M
      exact pops_done (hJ26 _ (wk_same (wk_any ((wk_any ((wk_any (Wk.refl _ _))))))))
     simp only [List.drop_succ_cons, List.drop_zero, anyAt_cons, anyAt_nil]
     refine pops_mv (.inl rfl) rfl (by simp only [St.eval, upd_at, Nat.reduceEqDiff, if_true, if_false, e0_0, e0_8, e0_9, e0_10, hget, Int.toNat_natCast, faultPV] <;> rfl) ?_
     apply pops_or0 4 33 37 [34, 35, 36] (by simp only [upd_at, Nat.reduceEqDiff, if_true, if_false, e0_0, e0_8, e0_9, e0_10, hget, Int.toNat_natCast, faultPV] <;> rfl)
     ·skip
      intro g33_0 J27 hJ27
      simp only [List.take_succ_cons, List.take_zero]
      simp only [anyAt_cons, anyAt_nil] at hJ27
      refine pops_do rfl rfl (by simp only [upd_at, Nat.reduceEqDiff, if_true, if_false, e0_0, e0_8, e0_9, e0_10, hget, Int.toNat_natCast, faultPV, g33_0]) fun M hM => ?_
      simp only [pop, St.eval, constSlot, upd_at, Nat.reduceEqDiff, if_true, if_false, popFieldAddr, fieldOf, List.drop_succ_cons, List.drop_zero, List.getElem?_toArray, List.getElem?_cons_zero, List.getElem?_cons_succ, Tryd.underlying81, sz3, e0_0, e0_8, e0_9, e0_10, hget, Int.toNat_natCast, faultPV, g33_0]
      refine ⟨⟨_, rfl⟩, hM _ _ ?_⟩
      clear hM M
      refine pops_do rfl rfl (by simp only [upd_at, Nat.reduceEqDiff, if_true, if_false, e0_0, e0_8, e0_9, e0_10, hget, Int.toNat_natCast, faultPV, g33_0]) fun M hM => ?_
      simp only [pop, St.eval, constSlot, upd_at, Nat.reduceEqDiff, if_true, if_false, popLoad, loadK, isAggD, List.drop_zero, List.getElem?_toArray, List.getElem?_cons_zero, List.getElem?_cons_succ, Bool.false_eq_true, Tryd.underlying3, sz3, eq_self, true_and, and_true, e0_0, e0_8, e0_9, e0_10, hget, Int.toNat_natCast, faultPV, g33_0]
      refine hM _ _ ?_
      clear hM M
      refine pops_do rfl rfl (by simp only [upd_at, Nat.reduceEqDiff, if_true, if_false, e0_0, e0_8, e0_9, e0_10, hget, Int.toNat_natCast, faultPV, g33_0]) fun M hM => ?_
      simp only [pop, St.eval, constSlot, upd_at, Nat.reduceEqDiff, if_true, if_false, popBin, binK, intK, strK, eqK, eq_self, true_and, and_true, e0_0, e0_8, e0_9, e0_10, hget, Int.toNat_natCast, faultPV, g33_0]
      refine hM _ _ ?_
      clear hM M
      refine pops_to rfl fun M hM => ?_
      simp only [pop, St.eval, constSlot, upd_at, Nat.reduceEqDiff, if_true, if_false, popIf, true_implies, false_implies, Bool.true_eq_false, Bool.false_eq_true, reduceCtorEq, true_and, and_true, e0_0, e0_8, e0_9, e0_10, hget, Int.toNat_natCast, faultPV, g33_0]
      refine hM _ _ ?_
      clear hM M
      exact pops_done (hJ27 _ (wk_same (wk_any ((wk_any ((wk_any (Wk.refl _ _))))))))
     ·skip
      intro g33_0 J27 hJ27
      simp only [List.take_succ_cons, List.take_zero]
      simp only [anyAt_cons, anyAt_nil] at hJ27
      refine pops_off (b := true) rfl rfl (by simp only [upd_at, Nat.reduceEqDiff, if_true, if_false, e0_0, e0_8, e0_9, e0_10, hget, Int.toNat_natCast, faultPV, g33_0]) (by decide) ?_
      refine pops_off (b := true) rfl rfl (by simp only [upd_at, Nat.reduceEqDiff, if_true, if_false, e0_0, e0_8, e0_9, e0_10, hget, Int.toNat_natCast, faultPV, g33_0]) (by decide) ?_
      refine pops_off (b := true) rfl rfl (by simp only [upd_at, Nat.reduceEqDiff, if_true, if_false, e0_0, e0_8, e0_9, e0_10, hget, Int.toNat_natCast, faultPV, g33_0]) (by decide) ?_
      refine pops_to rfl fun M hM => ?_
      simp only [pop, St.eval, constSlot, upd_at, Nat.reduceEqDiff, if_true, if_false, popIf, true_implies, false_implies, Bool.true_eq_false, Bool.false_eq_true, reduceCtorEq, true_and, and_true, e0_0, e0_8, e0_9, e0_10, hget, Int.toNat_natCast, faultPV, g33_0]
      refine hM _ _ ?_
      clear hM M
      exact pops_done (hJ27 _ (wk_same (wk_any ((wk_any ((wk_any (Wk.refl _ _))))))))
     simp only [List.drop_succ_cons, List.drop_zero, anyAt_cons, anyAt_nil]
     refine pops_mv (.inr rfl) rfl (by simp only [St.eval, upd_at, Nat.reduceEqDiff, if_true, if_false, e0_0, e0_8, e0_9, e0_10, hget, Int.toNat_natCast, faultPV] <;> rfl) ?_
     refine pops_done (hR25 _ ?_)
     clear hR25 R25
     try simp only [thenK, scopeK]
     refine hN24 _ ?_
     clear hN24 N24
     refine pwp_cond (by simp only [St.eval, upd_at, Nat.reduceEqDiff, if_true, if_false, e0_0, e0_8, e0_9, e0_10, hget, Int.toNat_natCast, faultPV] <;> rfl) (fun c24 => ?_) (fun c24 => ?_)
     ·skip
      have hfe : fE (l.take i) f = 7 := by rw [fE, if_neg (by rw [c15]; simp), if_pos c24]
      have he0 : faultsE l = 7 := by rw [faultsE, if_neg (by omega)]; exact fsE_hit hx hfe (by decide) hx0_1
      refine pwp_then fun N28 hN28 => ?_
      refine pwp_reg fun R29 hR29 => ?_
      refine pops_mv (.inr rfl) rfl (by simp only [St.eval, constSlot] <;> rfl) ?_
      refine pops_done (hR29 _ ?_)
      clear hR29 R29
      try simp only [thenK, scopeK]
      refine hN28 _ ?_
      clear hN28 N28
      refine pwp_ret ?_
      simp only [thenK, blockK, scopeK, bodyK]
      clear hN14 N14 hN8 N8
      refine ⟨_, rfl, endFun sv18 ?_⟩
      try simp only [upd_at, Nat.reduceEqDiff, if_true, if_false, e0_0, e0_8, e0_9, e0_10, hget, Int.toNat_natCast, faultPV]
      all_goals
       rw [he0]
     ·skip
      skip
      refine pwp_then fun N30 hN30 => ?_
      refine pwp_reg fun R31 hR31 => ?_
      refine pops_to rfl fun M hM => ?_
      simp only [pop, St.eval, constSlot, upd_at, Nat.reduceEqDiff, if_true, if_false, popFieldAddr, fieldOf, List.drop_succ_cons, List.drop_zero, List.getElem?_toArray, List.getElem?_cons_zero, List.getElem?_cons_succ, Tryd.underlying81, sz31, e0_0, e0_8, e0_9, e0_10, hget, Int.toNat_natCast, faultPV]
      refine ⟨⟨_, rfl⟩, hM _ _ ?_⟩
      clear hM M
      refine pops_to rfl fun M hM => ?_
      simp only [pop, St.eval, constSlot, upd_at, Nat.reduceEqDiff, if_true, if_false, popLoad, loadK, isAggD, List.drop_zero, List.getElem?_toArray, List.getElem?_cons_zero, List.getElem?_cons_succ, Bool.false_eq_true, Tryd.underlying31, sz31, eq_self, true_and, and_true, e0_0, e0_8, e0_9, e0_10, hget, Int.toNat_natCast, faultPV]
      refine hM _ _ ?_
      clear hM M
      refine pops_to rfl fun M hM => ?_
      simp only [pop, St.eval, constSlot, upd_at, Nat.reduceEqDiff, if_true, if_false, popBin, binK, intK, strK, eqK, Tryd.underlying31, isPtr, eq_self, true_and, and_true, e0_0, e0_8, e0_9, e0_10, hget, Int.toNat_natCast, faultPV]
      refine hM _ _ ?_
      clear hM M
      refine pops_mv (.inl rfl) rfl (by simp only [St.eval, upd_at, Nat.reduceEqDiff, if_true, if_false, e0_0, e0_8, e0_9, e0_10, hget, Int.toNat_natCast, faultPV] <;> rfl) ?_
      apply pops_and0 4 42 46 [43, 44, 45] (by simp only [upd_at, Nat.reduceEqDiff, if_true, if_false, e0_0, e0_8, e0_9, e0_10, hget, Int.toNat_natCast, faultPV] <;> rfl)
      ·skip
       intro g42_0 J32 hJ32
       simp only [List.take_succ_cons, List.take_zero]
       simp only [anyAt_cons, anyAt_nil] at hJ32
       refine pops_do rfl rfl (by simp only [upd_at, Nat.reduceEqDiff, if_true, if_false, e0_0, e0_8, e0_9, e0_10, hget, Int.toNat_natCast, faultPV, g42_0]) fun M hM => ?_
       simp only [pop, St.eval, constSlot, upd_at, Nat.reduceEqDiff, if_true, if_false, popFieldAddr, fieldOf, List.drop_succ_cons, List.drop_zero, List.getElem?_toArray, List.getElem?_cons_zero, List.getElem?_cons_succ, Tryd.underlying81, sz31, e0_0, e0_8, e0_9, e0_10, hget, Int.toNat_natCast, faultPV, g42_0]
       refine ⟨⟨_, rfl⟩, hM _ _ ?_⟩
       clear hM M
       refine pops_do rfl rfl (by simp only [upd_at, Nat.reduceEqDiff, if_true, if_false, e0_0, e0_8, e0_9, e0_10, hget, Int.toNat_natCast, faultPV, g42_0]) fun M hM => ?_
       simp only [pop, St.eval, constSlot, upd_at, Nat.reduceEqDiff, if_true, if_false, popLoad, loadK, isAggD, List.drop_zero, List.getElem?_toArray, List.getElem?_cons_zero, List.getElem?_cons_succ, Bool.false_eq_true, Tryd.underlying31, sz31, eq_self, true_and, and_true, e0_0, e0_8, e0_9, e0_10, hget, Int.toNat_natCast, faultPV, g42_0]
       refine hM _ _ ?_
       clear hM M
       refine pops_do rfl rfl (by simp only [upd_at, Nat.reduceEqDiff, if_true, if_false, e0_0, e0_8, e0_9, e0_10, hget, Int.toNat_natCast, faultPV, g42_0]) fun M hM => ?_
       simp only [pop, St.eval, constSlot, upd_at, Nat.reduceEqDiff, if_true, if_false, popBin, binK, intK, strK, eqK, Tryd.underlying31, isPtr, eq_self, true_and, and_true, e0_0, e0_8, e0_9, e0_10, hget, Int.toNat_natCast, faultPV, g42_0]
       refine hM _ _ ?_
       clear hM M
       refine pops_to rfl fun M hM => ?_
       simp only [pop, St.eval, constSlot, upd_at, Nat.reduceEqDiff, if_true, if_false, popIf, true_implies, false_implies, Bool.true_eq_false, Bool.false_eq_true, reduceCtorEq, true_and, and_true, e0_0, e0_8, e0_9, e0_10, hget, Int.toNat_natCast, faultPV, g42_0]
       refine hM _ _ ?_
       clear hM M
       exact pops_done (hJ32 _ (wk_same (wk_any ((wk_any ((wk_any (Wk.refl _ _))))))))
      ·skip
       intro g42_0 J32 hJ32
       simp only [List.take_succ_cons, List.take_zero]
       simp only [anyAt_cons, anyAt_nil] at hJ32
       refine pops_off (b := false) rfl rfl (by simp only [upd_at, Nat.reduceEqDiff, if_true, if_false, e0_0, e0_8, e0_9, e0_10, hget, Int.toNat_natCast, faultPV, g42_0]) (by decide) ?_
       refine pops_off (b := false) rfl rfl (by simp only [upd_at, Nat.reduceEqDiff, if_true, if_false, e0_0, e0_8, e0_9, e0_10, hget, Int.toNat_natCast, faultPV, g42_0]) (by decide) ?_
       refine pops_off (b := false) rfl rfl (by simp only [upd_at, Nat.reduceEqDiff, if_true, if_false, e0_0, e0_8, e0_9, e0_10, hget, Int.toNat_natCast, faultPV, g42_0]) (by decide) ?_
       refine pops_to rfl fun M hM => ?_
       simp only [pop, St.eval, constSlot, upd_at, Nat.reduceEqDiff, if_true, if_false, popIf, true_implies, false_implies, Bool.true_eq_false, Bool.false_eq_true, reduceCtorEq, true_and, and_true, e0_0, e0_8, e0_9, e0_10, hget, Int.toNat_natCast, faultPV, g42_0]
       refine hM _ _ ?_
       clear hM M
       exact pops_done (hJ32 _ (wk_same (wk_any ((wk_any ((wk_any (Wk.refl _ _))))))))
      simp only [List.drop_succ_cons, List.drop_zero, anyAt_cons, anyAt_nil]
      refine pops_mv (.inl rfl) rfl (by simp only [St.eval, upd_at, Nat.reduceEqDiff, if_true, if_false, e0_0, e0_8, e0_9, e0_10, hget, Int.toNat_natCast, faultPV] <;> rfl) ?_
      apply pops_and0 4 47 51 [48, 49, 50] (by simp only [upd_at, Nat.reduceEqDiff, if_true, if_false, e0_0, e0_8, e0_9, e0_10, hget, Int.toNat_natCast, faultPV] <;> rfl)
      ·skip
       intro g47_0 J33 hJ33
       simp only [List.take_succ_cons, List.take_zero]
       simp only [anyAt_cons, anyAt_nil] at hJ33
       refine pops_do rfl rfl (by simp only [upd_at, Nat.reduceEqDiff, if_true, if_false, e0_0, e0_8, e0_9, e0_10, hget, Int.toNat_natCast, faultPV, g47_0]) fun M hM => ?_
       simp only [pop, St.eval, constSlot, upd_at, Nat.reduceEqDiff, if_true, if_false, popFieldAddr, fieldOf, List.drop_succ_cons, List.drop_zero, List.getElem?_toArray, List.getElem?_cons_zero, List.getElem?_cons_succ, Tryd.underlying81, sz31, e0_0, e0_8, e0_9, e0_10, hget, Int.toNat_natCast, faultPV, g47_0]
       refine ⟨⟨_, rfl⟩, hM _ _ ?_⟩
       clear hM M
       refine pops_do rfl rfl (by simp only [upd_at, Nat.reduceEqDiff, if_true, if_false, e0_0, e0_8, e0_9, e0_10, hget, Int.toNat_natCast, faultPV, g47_0]) fun M hM => ?_
       simp only [pop, St.eval, constSlot, upd_at, Nat.reduceEqDiff, if_true, if_false, popLoad, loadK, isAggD, List.drop_zero, List.getElem?_toArray, List.getElem?_cons_zero, List.getElem?_cons_succ, Bool.false_eq_true, Tryd.underlying31, sz31, eq_self, true_and, and_true, e0_0, e0_8, e0_9, e0_10, hget, Int.toNat_natCast, faultPV, g47_0]
       refine hM _ _ ?_
       clear hM M
       refine pops_do rfl rfl (by simp only [upd_at, Nat.reduceEqDiff, if_true, if_false, e0_0, e0_8, e0_9, e0_10, hget, Int.toNat_natCast, faultPV, g47_0]) fun M hM => ?_
       simp only [pop, St.eval, constSlot, upd_at, Nat.reduceEqDiff, if_true, if_false, popBin, binK, intK, strK, eqK, Tryd.underlying31, isPtr, eq_self, true_and, and_true, e0_0, e0_8, e0_9, e0_10, hget, Int.toNat_natCast, faultPV, g47_0]
       refine hM _ _ ?_
       clear hM M
       refine pops_to rfl fun M hM => ?_
       simp only [pop, St.eval, constSlot, upd_at, Nat.reduceEqDiff, if_true, if_false, popIf, true_implies, false_implies, Bool.true_eq_false, Bool.false_eq_true, reduceCtorEq, true_and, and_true, e0_0, e0_8, e0_9, e0_10, hget, Int.toNat_natCast, faultPV, g47_0]
       refine hM _ _ ?_
       clear hM M
       exact pops_done (hJ33 _ (wk_same (wk_any ((wk_any ((wk_any (Wk.refl _ _))))))))
      ·skip
       intro g47_0 J33 hJ33
       simp only [List.take_succ_cons, List.take_zero]
       simp only [anyAt_cons, anyAt_nil] at hJ33
       refine pops_off (b := false) rfl rfl (by simp only [upd_at, Nat.reduceEqDiff, if_true, if_false, e0_0, e0_8, e0_9, e0_10, hget, Int.toNat_natCast, faultPV, g47_0]) (by decide) ?_
       refine pops_off (b := false) rfl rfl (by simp only [upd_at, Nat.reduceEqDiff, if_true, if_false, e0_0, e0_8, e0_9, e0_10, hget, Int.toNat_natCast, faultPV, g47_0]) (by decide) ?_
       refine pops_off (b := false) rfl rfl (by simp only [upd_at, Nat.reduceEqDiff, if_true, if_false, e0_0, e0_8, e0_9, e0_10, hget, Int.toNat_natCast, faultPV, g47_0]) (by decide) ?_
       refine pops_to rfl fun M hM => ?_
       simp only [pop, St.eval, constSlot, upd_at, Nat.reduceEqDiff, if_true, if_false, popIf, true_implies, false_implies, Bool.true_eq_false, Bool.false_eq_true, reduceCtorEq, true_and, and_true, e0_0, e0_8, e0_9, e0_10, hget, Int.toNat_natCast, faultPV, g47_0]
       refine hM _ _ ?_
       clear hM M
       exact pops_done (hJ33 _ (wk_same (wk_any ((wk_any ((wk_any (Wk.refl _ _))))))))
      simp only [List.drop_succ_cons, List.drop_zero, anyAt_cons, anyAt_nil]
      refine pops_mv (.inl rfl) rfl (by simp only [St.eval, upd_at, Nat.reduceEqDiff, if_true, if_false, e0_0, e0_8, e0_9, e0_10, hget, Int.toNat_natCast, faultPV] <;> rfl) ?_
      apply pops_and0 4 52 56 [53, 54, 55] (by simp only [upd_at, Nat.reduceEqDiff, if_true, if_false, e0_0, e0_8, e0_9, e0_10, hget, Int.toNat_natCast, faultPV] <;> rfl)
      ·skip
       intro g52_0 J34 hJ34
       simp only [List.take_succ_cons, List.take_zero]
       simp only [anyAt_cons, anyAt_nil] at hJ34
       refine pops_do rfl rfl (by simp only [upd_at, Nat.reduceEqDiff, if_true, if_false, e0_0, e0_8, e0_9, e0_10, hget, Int.toNat_natCast, faultPV, g52_0]) fun M hM => ?_
       simp only [pop, St.eval, constSlot, upd_at, Nat.reduceEqDiff, if_true, if_false, popFieldAddr, fieldOf, List.drop_succ_cons, List.drop_zero, List.getElem?_toArray, List.getElem?_cons_zero, List.getElem?_cons_succ, Tryd.underlying81, sz31, e0_0, e0_8, e0_9, e0_10, hget, Int.toNat_natCast, faultPV, g52_0]
       refine ⟨⟨_, rfl⟩, hM _ _ ?_⟩
       clear hM M
       refine pops_do rfl rfl (by simp only [upd_at, Nat.reduceEqDiff, if_true, if_false, e0_0, e0_8, e0_9, e0_10, hget, Int.toNat_natCast, faultPV, g52_0]) fun M hM => ?_
       simp only [pop, St.eval, constSlot, upd_at, Nat.reduceEqDiff, if_true, if_false, popLoad, loadK, isAggD, List.drop_zero, List.getElem?_toArray, List.getElem?_cons_zero, List.getElem?_cons_succ, Bool.false_eq_true, Tryd.underlying31, sz31, eq_self, true_and, and_true, e0_0, e0_8, e0_9, e0_10, hget, Int.toNat_natCast, faultPV, g52_0]
       refine hM _ _ ?_
       clear hM M
       refine pops_do rfl rfl (by simp only [upd_at, Nat.reduceEqDiff, if_true, if_false, e0_0, e0_8, e0_9, e0_10, hget, Int.toNat_natCast, faultPV, g52_0]) fun M hM => ?_
       simp only [pop, St.eval, constSlot, upd_at, Nat.reduceEqDiff, if_true, if_false, popBin, binK, intK, strK, eqK, Tryd.underlying31, isPtr, eq_self, true_and, and_true, e0_0, e0_8, e0_9, e0_10, hget, Int.toNat_natCast, faultPV, g52_0]
       refine hM _ _ ?_
       clear hM M
       refine pops_to rfl fun M hM => ?_
       simp only [pop, St.eval, constSlot, upd_at, Nat.reduceEqDiff, if_true, if_false, popIf, true_implies, false_implies, Bool.true_eq_false, Bool.false_eq_true, reduceCtorEq, true_and, and_true, e0_0, e0_8, e0_9, e0_10, hget, Int.toNat_natCast, faultPV, g52_0]
       refine hM _ _ ?_
       clear hM M
       exact pops_done (hJ34 _ (wk_same (wk_any ((wk_any ((wk_any (Wk.refl _ _))))))))
      ·skip
       intro g52_0 J34 hJ34
       simp only [List.take_succ_cons, List.take_zero]
       simp only [anyAt_cons, anyAt_nil] at hJ34
       refine pops_off (b := false) rfl rfl (by simp only [upd_at, Nat.reduceEqDiff, if_true, if_false, e0_0, e0_8, e0_9, e0_10, hget, Int.toNat_natCast, faultPV, g52_0]) (by decide) ?_
       refine pops_off (b := false) rfl rfl (by simp only [upd_at, Nat.reduceEqDiff, if_true, if_false, e0_0, e0_8, e0_9, e0_10, hget, Int.toNat_natCast, faultPV, g52_0]) (by decide) ?_
       refine pops_off (b := false) rfl rfl (by simp only [upd_at, Nat.reduceEqDiff, if_true, if_false, e0_0, e0_8, e0_9, e0_10, hget, Int.toNat_natCast, faultPV, g52_0]) (by decide) ?_
       refine pops_to rfl fun M hM => ?_
       simp only [pop, St.eval, constSlot, upd_at, Nat.reduceEqDiff, if_true, if_false, popIf, true_implies, false_implies, Bool.true_eq_false, Bool.false_eq_true, reduceCtorEq, true_and, and_true, e0_0, e0_8, e0_9, e0_10, hget, Int.toNat_natCast, faultPV, g52_0]
       refine hM _ _ ?_
       clear hM M
       exact pops_done (hJ34 _ (wk_same (wk_any ((wk_any ((wk_any (Wk.refl _ _))))))))
      simp only [List.drop_succ_cons, List.drop_zero, anyAt_cons, anyAt_nil]
      refine pops_mv (.inr rfl) rfl (by simp only [St.eval, upd_at, Nat.reduceEqDiff, if_true, if_false, e0_0, e0_8, e0_9, e0_10, hget, Int.toNat_natCast, faultPV] <;> rfl) ?_
      refine pops_done (hR31 _ ?_)
      clear hR31 R31
      try simp only [thenK, scopeK]
      refine hN30 _ ?_
      clear hN30 N30
      refine pwp_cond (by simp only [St.eval, upd_at, Nat.reduceEqDiff, if_true, if_false, e0_0, e0_8, e0_9, e0_10, hget, Int.toNat_natCast, faultPV] <;> rfl) (fun c38 => ?_) (fun c38 => ?_)
      ·skip
       have hfe : fE (l.take i) f = 6 := by rw [fE, if_neg (by rw [c15]; simp), if_neg (by rw [c24]; simp), if_pos (show errB f = true from c38)]
       have he0 : faultsE l = 6 := by rw [faultsE, if_neg (by omega)]; exact fsE_hit hx hfe (by decide) hx0_1
       refine pwp_then fun N35 hN35 => ?_
       refine pwp_reg fun R36 hR36 => ?_
       refine pops_mv (.inr rfl) rfl (by simp only [St.eval, constSlot] <;> rfl) ?_
       refine pops_done (hR36 _ ?_)
       clear hR36 R36
       try simp only [thenK, scopeK]
       refine hN35 _ ?_
       clear hN35 N35
       refine pwp_ret ?_
       simp only [thenK, blockK, scopeK, bodyK]
       clear hN14 N14 hN8 N8
       refine ⟨_, rfl, endFun sv18 ?_⟩
       try simp only [upd_at, Nat.reduceEqDiff, if_true, if_false, e0_0, e0_8, e0_9, e0_10, hget, Int.toNat_natCast, faultPV]
       all_goals
        rw [he0]
      ·skip
       skip
       refine pwp_then fun N37 hN37 => ?_
       refine pwp_reg fun R38 hR38 => ?_
       refine pops_mv (.inl rfl) rfl (by simp only [St.eval, upd_at, Nat.reduceEqDiff, if_true, if_false, e0_0, e0_8, e0_9, e0_10, hget, Int.toNat_natCast, faultPV] <;> rfl) ?_
       refine pops_mv (.inl rfl) rfl (by simp only [St.eval, upd_at, Nat.reduceEqDiff, if_true, if_false, e0_0, e0_8, e0_9, e0_10, hget, Int.toNat_natCast, faultPV] <;> rfl) ?_
       refine pops_to rfl fun M hM => ?_
       simp only [pop, St.eval, constSlot, upd_at, Nat.reduceEqDiff, if_true, if_false, popSlice, boundOf, Option.map_none, Option.map_some, Tryd.underlying40, sz81, eq_self, true_and, and_true, str_list, str_size, str_app, str_cut, str_get, e0_0, e0_8, e0_9, e0_10, hget, Int.toNat_natCast, faultPV, Int.toNat_natCast, Int.toNat_zero, List.drop_zero, ← List.map_take]
       refine ⟨Int.le_refl _, by omega, by simp; omega, hM _ _ ?_⟩
       clear hM M
       refine pops_to rfl fun M hM => ?_
       simp only [pop, St.eval, constSlot, upd_at, Nat.reduceEqDiff, if_true, if_false, onesOf, List.toList_toArray, List.map_cons, List.map_nil, List.mapM_cons, List.mapM_nil, Option.bind_eq_bind, Option.bind_some, Option.pure_def, eq_self, true_and, e0_0, e0_8, e0_9, e0_10, hget, Int.toNat_natCast, faultPV]
       refine hM _ _ ?_
       clear hM M
       refine pops_to rfl fun M hM => ?_
       simp only [pop, St.eval, constSlot, upd_at, Nat.reduceEqDiff, if_true, if_false, popCall, List.toList_toArray, List.map_cons, List.map_nil, svs, List.mapM_cons, List.mapM_nil, Option.bind_eq_bind, Option.bind_some, Option.pure_def, List.append_nil, List.cons_append, List.nil_append, str_size, e0_0, e0_8, e0_9, e0_10, hget, Int.toNat_natCast, faultPV]
       refine PFun.use (containsF_fun W0 69 [.rop (faultPV f)] (sameF f) false (l.take i) (fun g _ => sameFRef_fun W0 f g) (by rw [List.length_take]; omega)) fun h1 s1 => hM _ _ ?_
       replace s1 := Same.trans sv18 s1
       clear hM M
       refine pops_mv (.inr rfl) rfl (by simp only [St.eval, upd_at, Nat.reduceEqDiff, if_true, if_false, e0_0, e0_8, e0_9, e0_10, hget, Int.toNat_natCast, faultPV] <;> rfl) ?_
       refine pops_done (hR38 _ ?_)
       clear hR38 R38
       try simp only [thenK, scopeK]
       refine hN37 _ ?_
       clear hN37 N37
       refine pwp_cond (by simp only [St.eval, upd_at, Nat.reduceEqDiff, if_true, if_false, e0_0, e0_8, e0_9, e0_10, hget, Int.toNat_natCast, faultPV] <;> rfl) (fun c57 => ?_) (fun c57 => ?_)
       ·skip
        have hfe : fE (l.take i) f = 4 := by rw [fE, if_neg (by rw [c15]; simp), if_neg (by rw [c24]; simp), if_neg (by rw [show errB f = false from c38]; simp), if_pos c57]
        have he0 : faultsE l = 4 := by rw [faultsE, if_neg (by omega)]; exact fsE_hit hx hfe (by decide) hx0_1
        refine pwp_then fun N39 hN39 => ?_
        refine pwp_reg fun R40 hR40 => ?_
        refine pops_mv (.inr rfl) rfl (by simp only [St.eval, constSlot] <;> rfl) ?_
        refine pops_done (hR40 _ ?_)
        clear hR40 R40
        try simp only [thenK, scopeK]
        refine hN39 _ ?_
        clear hN39 N39
        refine pwp_ret ?_
        simp only [thenK, blockK, scopeK, bodyK]
        clear hN14 N14 hN8 N8
        refine ⟨_, rfl, endFun s1 ?_⟩
        try simp only [upd_at, Nat.reduceEqDiff, if_true, if_false, e0_0, e0_8, e0_9, e0_10, hget, Int.toNat_natCast, faultPV]
        all_goals
         rw [he0]
       ·skip
        have hfe : fE (l.take i) f = 0 := by rw [fE, if_neg (by rw [c15]; simp), if_neg (by rw [c24]; simp), if_neg (by rw [show errB f = false from c38]; simp), if_neg (by rw [c57]; simp)]
        refine pwp_skip ?_
        try simp only [blockK, thenK, scopeK]
        try simp only [blockK, thenK, scopeK]
        try simp only [thenK, scopeK]
        refine hN14 _ ?_
        clear hN14 N14
        refine pwp_reg fun R41 hR41 => ?_
        refine pops_to rfl fun M hM => ?_
        simp only [pop, St.eval, constSlot, upd_at, Nat.reduceEqDiff, if_true, if_false, popBin, binK, intK, strK, eqK, eq_self, true_and, and_true, e0_0, e0_8, e0_9, e0_10, hget, Int.toNat_natCast, faultPV]
        refine hM _ _ ?_
        clear hM M
        refine pops_mv (.inl rfl) rfl (by simp only [St.eval, upd_at, Nat.reduceEqDiff, if_true, if_false, e0_0, e0_8, e0_9, e0_10, hget, Int.toNat_natCast, faultPV] <;> rfl) ?_
        refine pops_done (hR41 _ ?_)
        clear hR41 R41
        try simp only [thenK, scopeK]
        exact ⟨_, by omega, _, .refl _ _, i + 1, rfl, by omega, fsE_step hx hfe hx0_1, s1, by simp only [upd_at, Nat.reduceEqDiff, if_true, if_false, e0_0, e0_8, e0_9, e0_10, hget, Int.toNat_natCast, faultPV], by simp only [upd_at, Nat.reduceEqDiff, if_true, if_false, e0_0, e0_8, e0_9, e0_10, hget, Int.toNat_natCast, faultPV], by simp only [upd_at, Nat.reduceEqDiff, if_true, if_false, e0_0, e0_8, e0_9, e0_10, hget, Int.toNat_natCast, faultPV], by simp only [upd_at, Nat.reduceEqDiff, if_true, if_false, e0_10]; rw [wrap_succ (by omega)]⟩
   ·skip
    have hi := of_decide_eq_false c11
    have he0 : faultsE l = 0 := by rw [faultsE, if_neg (by omega)]; exact fsE_end hi hx0_1
    refine pwp_exit ?_
    try simp only [thenK, blockK, scopeK, if_true, Nat.reduceEqDiff, if_false]
    clear hN13 N13
    try simp only [blockK, scopeK, if_true, Nat.reduceEqDiff, if_false, thenK]
    try simp only [thenK, scopeK]
    refine hN8 _ ?_
    clear hN8 N8
    refine pwp_then fun N42 hN42 => ?_
    refine pwp_reg fun R43 hR43 => ?_
    refine pops_mv (.inr rfl) rfl (by simp only [St.eval, constSlot] <;> rfl) ?_
    refine pops_done (hR43 _ ?_)
    clear hR43 R43
    try simp only [thenK, scopeK]
    refine hN42 _ ?_
    clear hN42 N42
    refine pwp_ret ?_
    simp only [thenK, blockK, scopeK, bodyK]
    refine ⟨_, rfl, endFun sl0 ?_⟩
    try simp only [upd_at, Nat.reduceEqDiff, if_true, if_false, e0_0, e0_8, e0_9, e0_10]
    all_goals
     rw [he0]
end Go.Pw
