import Derived.Test.YtokmndkkgbamfaaGreatDoorChgA
import Derived.Test.YtokmndkkgbamfaaGreatDoorChgFacts
namespace Go.Pw
open Go Go.RowKit Go.Proofs
set_option maxRecDepth 100000
set_option linter.unusedSimpArgs false
set_option linter.unusedVariables false
theorem table_at {x y : Int} (hx : x = 0 ∨ x = 1 ∨ x = 2 ∨ x = 3) (hy : y = 0 ∨ y = 1 ∨ y = 2 ∨ y = 3) : ∃ rest, (List.drop (y.toNat * 1) (List.drop (x.toNat * 4) [pint 0, pint 2, pint 2, pint 4, pint 1, pint 5, pint 5, pint 1, pint 1, pint 5, pint 5, pint 1, pint 3, pint 2, pint 2, pint 0])) = pint (tableI x y) :: rest := by
  rcases hx with rfl | rfl | rfl | rfl <;> rcases hy with rfl | rfl | rfl | rfl <;> exact ⟨_, rfl⟩
theorem table_at2 {x y : Int} (hx : x = 0 ∨ x = 1 ∨ x = 2 ∨ x = 3) (hy : y = 0 ∨ y = 1 ∨ y = 2 ∨ y = 3) : (List.take 4 (List.drop (x.toNat * 4) [pint 0, pint 2, pint 2, pint 4, pint 1, pint 5, pint 5, pint 1, pint 1, pint 5, pint 5, pint 1, pint 3, pint 2, pint 2, pint 0]))[y.toNat * 1]? = some (pint (tableI x y)) := by
  rcases hx with rfl | rfl | rfl | rfl <;> rcases hy with rfl | rfl | rfl | rfl <;> rfl
theorem nm15 : (Tryz.f15.name == "runtime.NumGoroutine") = false := by kernel_rfl
theorem decide_fun (W0 : World) (x y : Int) :
  PFun Tryz.prog W0 15 [.one (pint x), .one (pint y)] (.sv (.one (pint (tableI x y)))) := by
 intro h
 refine pcalls2 (n := 30) Tryz.func15 rfl nm15 rfl fun hb => ?_
 refine pwp_then fun N1 hN1 => ?_
 refine pwp_reg fun R2 hR2 => ?_
 refine pops_mv (.inr rfl) rfl (by simp only [St.eval, constSlot] <;> rfl) ?_
 refine pops_done (hR2 _ ?_)
 clear hR2 R2
 try simp only [thenK, scopeK]
 refine hN1 _ ?_
 clear hN1 N1
 refine pwp_then fun N3 hN3 => ?_
 refine pwp_then fun N4 hN4 => ?_
 refine pwp_reg fun R5 hR5 => ?_
 refine pops_mv (.inl rfl) rfl (by simp only [St.eval, upd_at, Nat.reduceEqDiff, if_true, if_false] <;> rfl) ?_
 refine pops_to rfl fun M hM => ?_
 simp only [pop, St.eval, constSlot, upd_at, Nat.reduceEqDiff, if_true, if_false, popBin, binK, intK, strK, eqK, eq_self, true_and, and_true]
 refine hM _ _ ?_
 clear hM M
 refine pops_mv (.inl rfl) rfl (by simp only [St.eval, upd_at, Nat.reduceEqDiff, if_true, if_false] <;> rfl) ?_
 apply pops_or0 3 8 11 [9, 10] (by simp only [upd_at, Nat.reduceEqDiff, if_true, if_false] <;> rfl)
 ·skip
  intro g8_0 J6 hJ6
  simp only [List.take_succ_cons, List.take_zero]
  simp only [anyAt_cons, anyAt_nil] at hJ6
  refine pops_mvg (.inl rfl) rfl rfl (by simp only [upd_at, Nat.reduceEqDiff, if_true, if_false, g8_0]) (by simp only [St.eval, upd_at, Nat.reduceEqDiff, if_true, if_false, g8_0] <;> rfl) ?_
  refine pops_do rfl rfl (by simp only [upd_at, Nat.reduceEqDiff, if_true, if_false, g8_0]) fun M hM => ?_
  simp only [pop, St.eval, constSlot, upd_at, Nat.reduceEqDiff, if_true, if_false, popBin, binK, intK, strK, eqK, eq_self, true_and, and_true, g8_0]
  refine hM _ _ ?_
  clear hM M
  refine pops_to rfl fun M hM => ?_
  simp only [pop, St.eval, constSlot, upd_at, Nat.reduceEqDiff, if_true, if_false, popIf, true_implies, false_implies, Bool.true_eq_false, Bool.false_eq_true, reduceCtorEq, true_and, and_true, g8_0]
  refine hM _ _ ?_
  clear hM M
  exact pops_done (hJ6 _ (wk_same (wk_any ((wk_any (Wk.refl _ _))))))
 ·skip
  intro g8_0 J6 hJ6
  simp only [List.take_succ_cons, List.take_zero]
  simp only [anyAt_cons, anyAt_nil] at hJ6
  refine pops_off (b := true) rfl rfl (by simp only [upd_at, Nat.reduceEqDiff, if_true, if_false, g8_0]) (by decide) ?_
  refine pops_off (b := true) rfl rfl (by simp only [upd_at, Nat.reduceEqDiff, if_true, if_false, g8_0]) (by decide) ?_
  refine pops_to rfl fun M hM => ?_
  simp only [pop, St.eval, constSlot, upd_at, Nat.reduceEqDiff, if_true, if_false, popIf, true_implies, false_implies, Bool.true_eq_false, Bool.false_eq_true, reduceCtorEq, true_and, and_true, g8_0]
  refine hM _ _ ?_
  clear hM M
  exact pops_done (hJ6 _ (wk_same (wk_any ((wk_any (Wk.refl _ _))))))
 simp only [List.drop_succ_cons, List.drop_zero, anyAt_cons, anyAt_nil]
 refine pops_mv (.inl rfl) rfl (by simp only [St.eval, upd_at, Nat.reduceEqDiff, if_true, if_false] <;> rfl) ?_
 apply pops_or0 3 12 15 [13, 14] (by simp only [upd_at, Nat.reduceEqDiff, if_true, if_false] <;> rfl)
 ·skip
  intro g12_0 J7 hJ7
  simp only [List.take_succ_cons, List.take_zero]
  simp only [anyAt_cons, anyAt_nil] at hJ7
  refine pops_mvg (.inl rfl) rfl rfl (by simp only [upd_at, Nat.reduceEqDiff, if_true, if_false, g12_0]) (by simp only [St.eval, upd_at, Nat.reduceEqDiff, if_true, if_false, g12_0] <;> rfl) ?_
  refine pops_do rfl rfl (by simp only [upd_at, Nat.reduceEqDiff, if_true, if_false, g12_0]) fun M hM => ?_
  simp only [pop, St.eval, constSlot, upd_at, Nat.reduceEqDiff, if_true, if_false, popBin, binK, intK, strK, eqK, eq_self, true_and, and_true, g12_0]
  refine hM _ _ ?_
  clear hM M
  refine pops_to rfl fun M hM => ?_
  simp only [pop, St.eval, constSlot, upd_at, Nat.reduceEqDiff, if_true, if_false, popIf, true_implies, false_implies, Bool.true_eq_false, Bool.false_eq_true, reduceCtorEq, true_and, and_true, g12_0]
  refine hM _ _ ?_
  clear hM M
  exact pops_done (hJ7 _ (wk_same (wk_any ((wk_any (Wk.refl _ _))))))
 ·skip
  intro g12_0 J7 hJ7
  simp only [List.take_succ_cons, List.take_zero]
  simp only [anyAt_cons, anyAt_nil] at hJ7
  refine pops_off (b := true) rfl rfl (by simp only [upd_at, Nat.reduceEqDiff, if_true, if_false, g12_0]) (by decide) ?_
  refine pops_off (b := true) rfl rfl (by simp only [upd_at, Nat.reduceEqDiff, if_true, if_false, g12_0]) (by decide) ?_
  refine pops_to rfl fun M hM => ?_
  simp only [pop, St.eval, constSlot, upd_at, Nat.reduceEqDiff, if_true, if_false, popIf, true_implies, false_implies, Bool.true_eq_false, Bool.false_eq_true, reduceCtorEq, true_and, and_true, g12_0]
  refine hM _ _ ?_
  clear hM M
  exact pops_done (hJ7 _ (wk_same (wk_any ((wk_any (Wk.refl _ _))))))
 simp only [List.drop_succ_cons, List.drop_zero, anyAt_cons, anyAt_nil]
 refine pops_mv (.inl rfl) rfl (by simp only [St.eval, upd_at, Nat.reduceEqDiff, if_true, if_false] <;> rfl) ?_
 apply pops_or0 3 16 19 [17, 18] (by simp only [upd_at, Nat.reduceEqDiff, if_true, if_false] <;> rfl)
 ·skip
  intro g16_0 J8 hJ8
  simp only [List.take_succ_cons, List.take_zero]
  simp only [anyAt_cons, anyAt_nil] at hJ8
  refine pops_mvg (.inl rfl) rfl rfl (by simp only [upd_at, Nat.reduceEqDiff, if_true, if_false, g16_0]) (by simp only [St.eval, upd_at, Nat.reduceEqDiff, if_true, if_false, g16_0] <;> rfl) ?_
  refine pops_do rfl rfl (by simp only [upd_at, Nat.reduceEqDiff, if_true, if_false, g16_0]) fun M hM => ?_
  simp only [pop, St.eval, constSlot, upd_at, Nat.reduceEqDiff, if_true, if_false, popBin, binK, intK, strK, eqK, eq_self, true_and, and_true, g16_0]
  refine hM _ _ ?_
  clear hM M
  refine pops_to rfl fun M hM => ?_
  simp only [pop, St.eval, constSlot, upd_at, Nat.reduceEqDiff, if_true, if_false, popIf, true_implies, false_implies, Bool.true_eq_false, Bool.false_eq_true, reduceCtorEq, true_and, and_true, g16_0]
  refine hM _ _ ?_
  clear hM M
  exact pops_done (hJ8 _ (wk_same (wk_any ((wk_any (Wk.refl _ _))))))
 ·skip
  intro g16_0 J8 hJ8
  simp only [List.take_succ_cons, List.take_zero]
  simp only [anyAt_cons, anyAt_nil] at hJ8
  refine pops_off (b := true) rfl rfl (by simp only [upd_at, Nat.reduceEqDiff, if_true, if_false, g16_0]) (by decide) ?_
  refine pops_off (b := true) rfl rfl (by simp only [upd_at, Nat.reduceEqDiff, if_true, if_false, g16_0]) (by decide) ?_
  refine pops_to rfl fun M hM => ?_
  simp only [pop, St.eval, constSlot, upd_at, Nat.reduceEqDiff, if_true, if_false, popIf, true_implies, false_implies, Bool.true_eq_false, Bool.false_eq_true, reduceCtorEq, true_and, and_true, g16_0]
  refine hM _ _ ?_
  clear hM M
  exact pops_done (hJ8 _ (wk_same (wk_any ((wk_any (Wk.refl _ _))))))
 simp only [List.drop_succ_cons, List.drop_zero, anyAt_cons, anyAt_nil]
 refine pops_done (hR5 _ ?_)
 clear hR5 R5
 try simp only [thenK, scopeK]
 refine hN4 _ ?_
 clear hN4 N4
 refine pwp_cond (by simp only [St.eval, upd_at, Nat.reduceEqDiff, if_true, if_false] <;> rfl) (fun c19 => ?_) (fun c19 => ?_)
 ·skip
  have hbad : x < 0 ∨ 3 < x ∨ y < 0 ∨ 3 < y := by simp only [Bool.or_eq_true, decide_eq_true_eq] at c19; omega
  refine pwp_then fun N9 hN9 => ?_
  refine pwp_reg fun R10 hR10 => ?_
  refine pops_mv (.inr rfl) rfl (by simp only [St.eval, constSlot] <;> rfl) ?_
  refine pops_done (hR10 _ ?_)
  clear hR10 R10
  try simp only [thenK, scopeK]
  refine hN9 _ ?_
  clear hN9 N9
  refine pwp_ret ?_
  simp only [thenK, blockK, scopeK, bodyK]
  clear hN3 N3
  refine ⟨_, rfl, endFun (Same.refl _) ?_⟩
  try simp only [upd_at, Nat.reduceEqDiff, if_true, if_false]
  all_goals
   rw [tableI, if_pos hbad]
 ·skip
  have hxy : (x = 0 ∨ x = 1 ∨ x = 2 ∨ x = 3) ∧ (y = 0 ∨ y = 1 ∨ y = 2 ∨ y = 3) := by simp only [Bool.or_eq_false_iff, decide_eq_false_iff_not] at c19; omega
  obtain ⟨hx, hy⟩ := hxy
  obtain ⟨rest, hT⟩ := table_at hx hy
  have hT2 := table_at2 hx hy
  refine pwp_skip ?_
  try simp only [thenK, scopeK]
  refine hN3 _ ?_
  clear hN3 N3
  refine pwp_then fun N11 hN11 => ?_
  refine pwp_reg fun R12 hR12 => ?_
  refine pops_to rfl fun M hM => ?_
  simp only [pop, St.eval, constSlot, upd_at, Nat.reduceEqDiff, if_true, if_false, fillP, slotCells, splice, List.toList_toArray, List.map_cons, List.map_nil, List.length_cons, List.length_nil, Nat.zero_add, Nat.reduceAdd, Nat.reduceLeDiff, List.take_zero, List.take_succ_cons, List.take_nil, List.drop_succ_cons, List.drop_zero, List.drop_nil, List.nil_append, List.cons_append, List.append_nil, and_self, List.getElem?_cons_zero, List.getElem?_cons_succ, List.set_cons_zero, List.set_cons_succ, Option.some.injEq, bd162, eq_self, true_and, and_true, str_list, str_size, str_app, str_cut, str_get]
  refine hM _ _ ?_
  clear hM M
  refine pops_to rfl fun M hM => ?_
  simp only [pop, St.eval, constSlot, upd_at, Nat.reduceEqDiff, if_true, if_false, fillP, slotCells, splice, List.toList_toArray, List.map_cons, List.map_nil, List.length_cons, List.length_nil, Nat.zero_add, Nat.reduceAdd, Nat.reduceLeDiff, List.take_zero, List.take_succ_cons, List.take_nil, List.drop_succ_cons, List.drop_zero, List.drop_nil, List.nil_append, List.cons_append, List.append_nil, and_self, List.getElem?_cons_zero, List.getElem?_cons_succ, List.set_cons_zero, List.set_cons_succ, Option.some.injEq, bd162, eq_self, true_and, and_true, str_list, str_size, str_app, str_cut, str_get]
  refine hM _ _ ?_
  clear hM M
  refine pops_to rfl fun M hM => ?_
  simp only [pop, St.eval, constSlot, upd_at, Nat.reduceEqDiff, if_true, if_false, fillP, slotCells, splice, List.toList_toArray, List.map_cons, List.map_nil, List.length_cons, List.length_nil, Nat.zero_add, Nat.reduceAdd, Nat.reduceLeDiff, List.take_zero, List.take_succ_cons, List.take_nil, List.drop_succ_cons, List.drop_zero, List.drop_nil, List.nil_append, List.cons_append, List.append_nil, and_self, List.getElem?_cons_zero, List.getElem?_cons_succ, List.set_cons_zero, List.set_cons_succ, Option.some.injEq, bd162, eq_self, true_and, and_true, str_list, str_size, str_app, str_cut, str_get]
  refine hM _ _ ?_
  clear hM M
  refine pops_to rfl fun M hM => ?_
  simp only [pop, St.eval, constSlot, upd_at, Nat.reduceEqDiff, if_true, if_false, fillP, slotCells, splice, List.toList_toArray, List.map_cons, List.map_nil, List.length_cons, List.length_nil, Nat.zero_add, Nat.reduceAdd, Nat.reduceLeDiff, List.take_zero, List.take_succ_cons, List.take_nil, List.drop_succ_cons, List.drop_zero, List.drop_nil, List.nil_append, List.cons_append, List.append_nil, and_self, List.getElem?_cons_zero, List.getElem?_cons_succ, List.set_cons_zero, List.set_cons_succ, Option.some.injEq, bd162, eq_self, true_and, and_true, str_list, str_size, str_app, str_cut, str_get]
  refine hM _ _ ?_
  clear hM M
  refine pops_to rfl fun M hM => ?_
  simp only [pop, St.eval, constSlot, upd_at, Nat.reduceEqDiff, if_true, if_false, fillP, slotCells, splice, List.toList_toArray, List.map_cons, List.map_nil, List.length_cons, List.length_nil, Nat.zero_add, Nat.reduceAdd, Nat.reduceLeDiff, List.take_zero, List.take_succ_cons, List.take_nil, List.drop_succ_cons, List.drop_zero, List.drop_nil, List.nil_append, List.cons_append, List.append_nil, and_self, List.getElem?_cons_zero, List.getElem?_cons_succ, List.set_cons_zero, List.set_cons_succ, Option.some.injEq, bd163, eq_self, true_and, and_true, str_list, str_size, str_app, str_cut, str_get]
  refine hM _ _ ?_
  clear hM M
  refine pops_var (hpOk.same hb (Same.refl _)) rfl ze163 (zs := [PV.val (.int .i64 0), PV.val (.int .i64 0), PV.val (.int .i64 0), PV.val (.int .i64 0), PV.val (.int .i64 0), PV.val (.int .i64 0), PV.val (.int .i64 0), PV.val (.int .i64 0), PV.val (.int .i64 0), PV.val (.int .i64 0), PV.val (.int .i64 0), PV.val (.int .i64 0), PV.val (.int .i64 0), PV.val (.int .i64 0), PV.val (.int .i64 0), PV.val (.int .i64 0)]) (by kernel_rfl) (by simp) (by simp only [St.eval, constSlot, slotCells, upd_at, Nat.reduceEqDiff, if_true, if_false] <;> rfl) (by rfl) (by exact Nat.succ_pos _) (by rw [sz163]; rfl) (fun hv13 sv13 => ?_)
  refine pops_done (hR12 _ ?_)
  clear hR12 R12
  try simp only [thenK, scopeK]
  refine hN11 _ ?_
  clear hN11 N11
  refine pwp_then fun N14 hN14 => ?_
  refine pwp_reg fun R15 hR15 => ?_
  refine pops_mv (.inl rfl) rfl (by simp only [St.eval, upd_at, Nat.reduceEqDiff, if_true, if_false] <;> rfl) ?_
  refine pops_mv (.inl rfl) rfl (by simp only [St.eval, upd_at, Nat.reduceEqDiff, if_true, if_false] <;> rfl) ?_
  refine pops_to rfl fun M hM => ?_
  simp only [pop, St.eval, constSlot, upd_at, Nat.reduceEqDiff, if_true, if_false, popIndexAddr, Tryz.underlying163, sz162, eq_self, true_and, and_true, str_list, str_size, str_app, str_cut, str_get]
  refine ⟨by omega, by omega, ?_⟩
  refine hM _ _ ?_
  clear hM M
  refine pops_to rfl fun M hM => ?_
  simp only [pop, St.eval, constSlot, upd_at, Nat.reduceEqDiff, if_true, if_false, popIndexAddr, Tryz.underlying162, sz3, eq_self, true_and, and_true, str_list, str_size, str_app, str_cut, str_get]
  refine ⟨by omega, by omega, ?_⟩
  refine hM _ _ ?_
  clear hM M
  refine pops_to rfl fun M hM => ?_
  simp only [pop, St.eval, constSlot, upd_at, Nat.reduceEqDiff, if_true, if_false, popLoad, loadK, isAggD, List.drop_zero, List.getElem?_toArray, List.getElem?_cons_zero, List.getElem?_cons_succ, Bool.false_eq_true, Tryz.underlying3, sz3, eq_self, true_and, and_true, hT]
  refine hM _ _ ?_
  clear hM M
  refine pops_mv (.inr rfl) rfl (by simp only [St.eval, upd_at, Nat.reduceEqDiff, if_true, if_false] <;> rfl) ?_
  refine pops_done (hR15 _ ?_)
  clear hR15 R15
  try simp only [thenK, scopeK]
  refine hN14 _ ?_
  clear hN14 N14
  refine pwp_ret ?_
  simp only [thenK, blockK, scopeK, bodyK]
  refine ⟨_, rfl, endFun sv13 ?_⟩
  try simp only [upd_at, Nat.reduceEqDiff, if_true, if_false]
  all_goals
   rfl

theorem nm16 : (Tryz.f16.name == "runtime.NumGoroutine") = false := by kernel_rfl
theorem decideRef_fun (W0 : World) (x y : Int) :
  PFun Tryz.prog W0 16 [.one (pint x), .one (pint y)] (.sv (.one (pint (tableI x y)))) := by
 intro h
 refine pcalls2 (n := 28) Tryz.func16 rfl nm16 rfl fun hb => ?_
 refine pwp_then fun N1 hN1 => ?_
 refine pwp_reg fun R2 hR2 => ?_
 refine pops_mv (.inr rfl) rfl (by simp only [St.eval, constSlot] <;> rfl) ?_
 refine pops_done (hR2 _ ?_)
 clear hR2 R2
 try simp only [thenK, scopeK]
 refine hN1 _ ?_
 clear hN1 N1
 refine pwp_then fun N3 hN3 => ?_
 refine pwp_then fun N4 hN4 => ?_
 refine pwp_reg fun R5 hR5 => ?_
 refine pops_mv (.inl rfl) rfl (by simp only [St.eval, upd_at, Nat.reduceEqDiff, if_true, if_false] <;> rfl) ?_
 refine pops_to rfl fun M hM => ?_
 simp only [pop, St.eval, constSlot, upd_at, Nat.reduceEqDiff, if_true, if_false, popBin, binK, intK, strK, eqK, eq_self, true_and, and_true]
 refine hM _ _ ?_
 clear hM M
 refine pops_mv (.inl rfl) rfl (by simp only [St.eval, upd_at, Nat.reduceEqDiff, if_true, if_false] <;> rfl) ?_
 apply pops_or0 3 7 10 [8, 9] (by simp only [upd_at, Nat.reduceEqDiff, if_true, if_false] <;> rfl)
 ·skip
  intro g7_0 J6 hJ6
  simp only [List.take_succ_cons, List.take_zero]
  simp only [anyAt_cons, anyAt_nil] at hJ6
  refine pops_mvg (.inl rfl) rfl rfl (by simp only [upd_at, Nat.reduceEqDiff, if_true, if_false, g7_0]) (by simp only [St.eval, upd_at, Nat.reduceEqDiff, if_true, if_false, g7_0] <;> rfl) ?_
  refine pops_do rfl rfl (by simp only [upd_at, Nat.reduceEqDiff, if_true, if_false, g7_0]) fun M hM => ?_
  simp only [pop, St.eval, constSlot, upd_at, Nat.reduceEqDiff, if_true, if_false, popBin, binK, intK, strK, eqK, eq_self, true_and, and_true, g7_0]
  refine hM _ _ ?_
  clear hM M
  refine pops_to rfl fun M hM => ?_
  simp only [pop, St.eval, constSlot, upd_at, Nat.reduceEqDiff, if_true, if_false, popIf, true_implies, false_implies, Bool.true_eq_false, Bool.false_eq_true, reduceCtorEq, true_and, and_true, g7_0]
  refine hM _ _ ?_
  clear hM M
  exact pops_done (hJ6 _ (wk_same (wk_any ((wk_any (Wk.refl _ _))))))
 ·skip
  intro g7_0 J6 hJ6
  simp only [List.take_succ_cons, List.take_zero]
  simp only [anyAt_cons, anyAt_nil] at hJ6
  refine pops_off (b := true) rfl rfl (by simp only [upd_at, Nat.reduceEqDiff, if_true, if_false, g7_0]) (by decide) ?_
  refine pops_off (b := true) rfl rfl (by simp only [upd_at, Nat.reduceEqDiff, if_true, if_false, g7_0]) (by decide) ?_
  refine pops_to rfl fun M hM => ?_
  simp only [pop, St.eval, constSlot, upd_at, Nat.reduceEqDiff, if_true, if_false, popIf, true_implies, false_implies, Bool.true_eq_false, Bool.false_eq_true, reduceCtorEq, true_and, and_true, g7_0]
  refine hM _ _ ?_
  clear hM M
  exact pops_done (hJ6 _ (wk_same (wk_any ((wk_any (Wk.refl _ _))))))
 simp only [List.drop_succ_cons, List.drop_zero, anyAt_cons, anyAt_nil]
 refine pops_mv (.inl rfl) rfl (by simp only [St.eval, upd_at, Nat.reduceEqDiff, if_true, if_false] <;> rfl) ?_
 apply pops_or0 3 11 14 [12, 13] (by simp only [upd_at, Nat.reduceEqDiff, if_true, if_false] <;> rfl)
 ·skip
  intro g11_0 J7 hJ7
  simp only [List.take_succ_cons, List.take_zero]
  simp only [anyAt_cons, anyAt_nil] at hJ7
  refine pops_mvg (.inl rfl) rfl rfl (by simp only [upd_at, Nat.reduceEqDiff, if_true, if_false, g11_0]) (by simp only [St.eval, upd_at, Nat.reduceEqDiff, if_true, if_false, g11_0] <;> rfl) ?_
  refine pops_do rfl rfl (by simp only [upd_at, Nat.reduceEqDiff, if_true, if_false, g11_0]) fun M hM => ?_
  simp only [pop, St.eval, constSlot, upd_at, Nat.reduceEqDiff, if_true, if_false, popBin, binK, intK, strK, eqK, eq_self, true_and, and_true, g11_0]
  refine hM _ _ ?_
  clear hM M
  refine pops_to rfl fun M hM => ?_
  simp only [pop, St.eval, constSlot, upd_at, Nat.reduceEqDiff, if_true, if_false, popIf, true_implies, false_implies, Bool.true_eq_false, Bool.false_eq_true, reduceCtorEq, true_and, and_true, g11_0]
  refine hM _ _ ?_
  clear hM M
  exact pops_done (hJ7 _ (wk_same (wk_any ((wk_any (Wk.refl _ _))))))
 ·skip
  intro g11_0 J7 hJ7
  simp only [List.take_succ_cons, List.take_zero]
  simp only [anyAt_cons, anyAt_nil] at hJ7
  refine pops_off (b := true) rfl rfl (by simp only [upd_at, Nat.reduceEqDiff, if_true, if_false, g11_0]) (by decide) ?_
  refine pops_off (b := true) rfl rfl (by simp only [upd_at, Nat.reduceEqDiff, if_true, if_false, g11_0]) (by decide) ?_
  refine pops_to rfl fun M hM => ?_
  simp only [pop, St.eval, constSlot, upd_at, Nat.reduceEqDiff, if_true, if_false, popIf, true_implies, false_implies, Bool.true_eq_false, Bool.false_eq_true, reduceCtorEq, true_and, and_true, g11_0]
  refine hM _ _ ?_
  clear hM M
  exact pops_done (hJ7 _ (wk_same (wk_any ((wk_any (Wk.refl _ _))))))
 simp only [List.drop_succ_cons, List.drop_zero, anyAt_cons, anyAt_nil]
 refine pops_mv (.inl rfl) rfl (by simp only [St.eval, upd_at, Nat.reduceEqDiff, if_true, if_false] <;> rfl) ?_
 apply pops_or0 3 15 18 [16, 17] (by simp only [upd_at, Nat.reduceEqDiff, if_true, if_false] <;> rfl)
 ·skip
  intro g15_0 J8 hJ8
  simp only [List.take_succ_cons, List.take_zero]
  simp only [anyAt_cons, anyAt_nil] at hJ8
  refine pops_mvg (.inl rfl) rfl rfl (by simp only [upd_at, Nat.reduceEqDiff, if_true, if_false, g15_0]) (by simp only [St.eval, upd_at, Nat.reduceEqDiff, if_true, if_false, g15_0] <;> rfl) ?_
  refine pops_do rfl rfl (by simp only [upd_at, Nat.reduceEqDiff, if_true, if_false, g15_0]) fun M hM => ?_
  simp only [pop, St.eval, constSlot, upd_at, Nat.reduceEqDiff, if_true, if_false, popBin, binK, intK, strK, eqK, eq_self, true_and, and_true, g15_0]
  refine hM _ _ ?_
  clear hM M
  refine pops_to rfl fun M hM => ?_
  simp only [pop, St.eval, constSlot, upd_at, Nat.reduceEqDiff, if_true, if_false, popIf, true_implies, false_implies, Bool.true_eq_false, Bool.false_eq_true, reduceCtorEq, true_and, and_true, g15_0]
  refine hM _ _ ?_
  clear hM M
  exact pops_done (hJ8 _ (wk_same (wk_any ((wk_any (Wk.refl _ _))))))
 ·skip
  intro g15_0 J8 hJ8
  simp only [List.take_succ_cons, List.take_zero]
  simp only [anyAt_cons, anyAt_nil] at hJ8
  refine pops_off (b := true) rfl rfl (by simp only [upd_at, Nat.reduceEqDiff, if_true, if_false, g15_0]) (by decide) ?_
  refine pops_off (b := true) rfl rfl (by simp only [upd_at, Nat.reduceEqDiff, if_true, if_false, g15_0]) (by decide) ?_
  refine pops_to rfl fun M hM => ?_
  simp only [pop, St.eval, constSlot, upd_at, Nat.reduceEqDiff, if_true, if_false, popIf, true_implies, false_implies, Bool.true_eq_false, Bool.false_eq_true, reduceCtorEq, true_and, and_true, g15_0]
  refine hM _ _ ?_
  clear hM M
  exact pops_done (hJ8 _ (wk_same (wk_any ((wk_any (Wk.refl _ _))))))
 simp only [List.drop_succ_cons, List.drop_zero, anyAt_cons, anyAt_nil]
 refine pops_done (hR5 _ ?_)
 clear hR5 R5
 try simp only [thenK, scopeK]
 refine hN4 _ ?_
 clear hN4 N4
 refine pwp_cond (by simp only [St.eval, upd_at, Nat.reduceEqDiff, if_true, if_false] <;> rfl) (fun c18 => ?_) (fun c18 => ?_)
 ·skip
  have hbad : x < 0 ∨ 3 < x ∨ y < 0 ∨ 3 < y := by simp only [Bool.or_eq_true, decide_eq_true_eq] at c18; omega
  refine pwp_then fun N9 hN9 => ?_
  refine pwp_reg fun R10 hR10 => ?_
  refine pops_mv (.inr rfl) rfl (by simp only [St.eval, constSlot] <;> rfl) ?_
  refine pops_done (hR10 _ ?_)
  clear hR10 R10
  try simp only [thenK, scopeK]
  refine hN9 _ ?_
  clear hN9 N9
  refine pwp_ret ?_
  simp only [thenK, blockK, scopeK, bodyK]
  clear hN3 N3
  refine ⟨_, rfl, endFun (Same.refl _) ?_⟩
  try simp only [upd_at, Nat.reduceEqDiff, if_true, if_false]
  all_goals
   rw [tableI, if_pos hbad]
 ·skip
  have hxy : (x = 0 ∨ x = 1 ∨ x = 2 ∨ x = 3) ∧ (y = 0 ∨ y = 1 ∨ y = 2 ∨ y = 3) := by simp only [Bool.or_eq_false_iff, decide_eq_false_iff_not] at c18; omega
  obtain ⟨hx, hy⟩ := hxy
  obtain ⟨rest, hT⟩ := table_at hx hy
  have hT2 := table_at2 hx hy
  refine pwp_skip ?_
  try simp only [thenK, scopeK]
  refine hN3 _ ?_
  clear hN3 N3
  refine pwp_then fun N11 hN11 => ?_
  refine pwp_reg fun R12 hR12 => ?_
  refine pops_to rfl fun M hM => ?_
  simp only [pop, St.eval, constSlot, upd_at, Nat.reduceEqDiff, if_true, if_false, fillP, slotCells, splice, List.toList_toArray, List.map_cons, List.map_nil, List.length_cons, List.length_nil, Nat.zero_add, Nat.reduceAdd, Nat.reduceLeDiff, List.take_zero, List.take_succ_cons, List.take_nil, List.drop_succ_cons, List.drop_zero, List.drop_nil, List.nil_append, List.cons_append, List.append_nil, and_self, List.getElem?_cons_zero, List.getElem?_cons_succ, List.set_cons_zero, List.set_cons_succ, Option.some.injEq, bd162, eq_self, true_and, and_true, str_list, str_size, str_app, str_cut, str_get]
  refine hM _ _ ?_
  clear hM M
  refine pops_to rfl fun M hM => ?_
  simp only [pop, St.eval, constSlot, upd_at, Nat.reduceEqDiff, if_true, if_false, fillP, slotCells, splice, List.toList_toArray, List.map_cons, List.map_nil, List.length_cons, List.length_nil, Nat.zero_add, Nat.reduceAdd, Nat.reduceLeDiff, List.take_zero, List.take_succ_cons, List.take_nil, List.drop_succ_cons, List.drop_zero, List.drop_nil, List.nil_append, List.cons_append, List.append_nil, and_self, List.getElem?_cons_zero, List.getElem?_cons_succ, List.set_cons_zero, List.set_cons_succ, Option.some.injEq, bd162, eq_self, true_and, and_true, str_list, str_size, str_app, str_cut, str_get]
  refine hM _ _ ?_
  clear hM M
  refine pops_to rfl fun M hM => ?_
  simp only [pop, St.eval, constSlot, upd_at, Nat.reduceEqDiff, if_true, if_false, fillP, slotCells, splice, List.toList_toArray, List.map_cons, List.map_nil, List.length_cons, List.length_nil, Nat.zero_add, Nat.reduceAdd, Nat.reduceLeDiff, List.take_zero, List.take_succ_cons, List.take_nil, List.drop_succ_cons, List.drop_zero, List.drop_nil, List.nil_append, List.cons_append, List.append_nil, and_self, List.getElem?_cons_zero, List.getElem?_cons_succ, List.set_cons_zero, List.set_cons_succ, Option.some.injEq, bd162, eq_self, true_and, and_true, str_list, str_size, str_app, str_cut, str_get]
  refine hM _ _ ?_
  clear hM M
  refine pops_to rfl fun M hM => ?_
  simp only [pop, St.eval, constSlot, upd_at, Nat.reduceEqDiff, if_true, if_false, fillP, slotCells, splice, List.toList_toArray, List.map_cons, List.map_nil, List.length_cons, List.length_nil, Nat.zero_add, Nat.reduceAdd, Nat.reduceLeDiff, List.take_zero, List.take_succ_cons, List.take_nil, List.drop_succ_cons, List.drop_zero, List.drop_nil, List.nil_append, List.cons_append, List.append_nil, and_self, List.getElem?_cons_zero, List.getElem?_cons_succ, List.set_cons_zero, List.set_cons_succ, Option.some.injEq, bd162, eq_self, true_and, and_true, str_list, str_size, str_app, str_cut, str_get]
  refine hM _ _ ?_
  clear hM M
  refine pops_to rfl fun M hM => ?_
  simp only [pop, St.eval, constSlot, upd_at, Nat.reduceEqDiff, if_true, if_false, fillP, slotCells, splice, List.toList_toArray, List.map_cons, List.map_nil, List.length_cons, List.length_nil, Nat.zero_add, Nat.reduceAdd, Nat.reduceLeDiff, List.take_zero, List.take_succ_cons, List.take_nil, List.drop_succ_cons, List.drop_zero, List.drop_nil, List.nil_append, List.cons_append, List.append_nil, and_self, List.getElem?_cons_zero, List.getElem?_cons_succ, List.set_cons_zero, List.set_cons_succ, Option.some.injEq, bd163, eq_self, true_and, and_true, str_list, str_size, str_app, str_cut, str_get]
  refine hM _ _ ?_
  clear hM M
  refine pops_mv (.inl rfl) rfl (by simp only [St.eval, upd_at, Nat.reduceEqDiff, if_true, if_false] <;> rfl) ?_
  refine pops_to rfl fun M hM => ?_
  simp only [pop, St.eval, constSlot, upd_at, Nat.reduceEqDiff, if_true, if_false, popIndex, partK, Tryz.underlying163, sz162, eq_self, true_and, and_true, str_list, str_size, str_app, str_cut, str_get, Tryz.underlying162, isAggD, if_true]
  refine ⟨by omega, by omega, by simp only [List.length_cons, List.length_nil]; omega, ?_⟩
  refine hM _ _ ?_
  clear hM M
  refine pops_mv (.inl rfl) rfl (by simp only [St.eval, upd_at, Nat.reduceEqDiff, if_true, if_false] <;> rfl) ?_
  refine pops_to rfl fun M hM => ?_
  simp only [pop, St.eval, constSlot, upd_at, Nat.reduceEqDiff, if_true, if_false, popIndex, partK, Tryz.underlying162, sz3, eq_self, true_and, and_true, str_list, str_size, str_app, str_cut, str_get, Tryz.underlying3, isAggD, Bool.false_eq_true, hT2]
  refine ⟨by omega, by omega, ?_⟩
  refine hM _ _ ?_
  clear hM M
  refine pops_mv (.inr rfl) rfl (by simp only [St.eval, upd_at, Nat.reduceEqDiff, if_true, if_false] <;> rfl) ?_
  refine pops_done (hR12 _ ?_)
  clear hR12 R12
  try simp only [thenK, scopeK]
  refine hN11 _ ?_
  clear hN11 N11
  refine pwp_ret ?_
  simp only [thenK, blockK, scopeK, bodyK]
  refine ⟨_, rfl, endFun (Same.refl _) ?_⟩
  try simp only [upd_at, Nat.reduceEqDiff, if_true, if_false]
  all_goals
   rfl
end Go.Pw
