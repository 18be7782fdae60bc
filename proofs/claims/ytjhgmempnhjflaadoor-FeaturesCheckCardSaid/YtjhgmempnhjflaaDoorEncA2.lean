import Derived.Test.YtjhgmempnhjflaaDoorEncA
namespace Go.Pw
open Go Go.RowKit Go.Proofs
set_option maxRecDepth 100000
set_option linter.unusedSimpArgs false
set_option linter.unusedVariables false
theorem nm62 : (Tryd.f62.name == "runtime.NumGoroutine") = false := by kernel_rfl
theorem alnum_fun (W0 : World) (c : UInt8) :
  PFun Tryd.prog W0 62 [.one (.val (.int .u8 c.toNat))] (.sv (.one (pbool (letterB c || digitB c)))) := by
 intro h
 refine pcalls1 (n := 25) Tryd.func62 rfl nm62 rfl fun hb => ?_
 refine pwp_then fun N1 hN1 => ?_
 refine pwp_reg fun R2 hR2 => ?_
 refine pops_mv (.inr rfl) rfl (by simp only [St.eval, constSlot] <;> rfl) ?_
 refine pops_done (hR2 _ ?_)
 clear hR2 R2
 try simp only [thenK, scopeK]
 refine hN1 _ ?_
 clear hN1 N1
 refine pwp_then fun N3 hN3 => ?_
 refine pwp_reg fun R4 hR4 => ?_
 refine pops_mv (.inl rfl) rfl (by simp only [St.eval, upd_at, Nat.reduceEqDiff, if_true, if_false] <;> rfl) ?_
 refine pops_to rfl fun M hM => ?_
 simp only [pop, St.eval, constSlot, upd_at, Nat.reduceEqDiff, if_true, if_false, popBin, binK, intK, strK, eqK, eq_self, true_and, and_true]
 refine hM _ _ ?_
 clear hM M
 refine pops_mv (.inl rfl) rfl (by simp only [St.eval, upd_at, Nat.reduceEqDiff, if_true, if_false] <;> rfl) ?_
 apply pops_and0 3 5 8 [6, 7] (by simp only [upd_at, Nat.reduceEqDiff, if_true, if_false] <;> rfl)
 ·skip
  intro g5_0 J5 hJ5
  simp only [List.take_succ_cons, List.take_zero]
  simp only [anyAt_cons, anyAt_nil] at hJ5
  refine pops_mvg (.inl rfl) rfl rfl (by simp only [upd_at, Nat.reduceEqDiff, if_true, if_false, g5_0]) (by simp only [St.eval, upd_at, Nat.reduceEqDiff, if_true, if_false, g5_0] <;> rfl) ?_
  refine pops_do rfl rfl (by simp only [upd_at, Nat.reduceEqDiff, if_true, if_false, g5_0]) fun M hM => ?_
  simp only [pop, St.eval, constSlot, upd_at, Nat.reduceEqDiff, if_true, if_false, popBin, binK, intK, strK, eqK, eq_self, true_and, and_true, g5_0]
  refine hM _ _ ?_
  clear hM M
  refine pops_to rfl fun M hM => ?_
  simp only [pop, St.eval, constSlot, upd_at, Nat.reduceEqDiff, if_true, if_false, popIf, true_implies, false_implies, Bool.true_eq_false, Bool.false_eq_true, reduceCtorEq, true_and, and_true, g5_0]
  refine hM _ _ ?_
  clear hM M
  exact pops_done (hJ5 _ (wk_same (wk_any ((wk_any (Wk.refl _ _))))))
 ·skip
  intro g5_0 J5 hJ5
  simp only [List.take_succ_cons, List.take_zero]
  simp only [anyAt_cons, anyAt_nil] at hJ5
  refine pops_off (b := false) rfl rfl (by simp only [upd_at, Nat.reduceEqDiff, if_true, if_false, g5_0]) (by decide) ?_
  refine pops_off (b := false) rfl rfl (by simp only [upd_at, Nat.reduceEqDiff, if_true, if_false, g5_0]) (by decide) ?_
  refine pops_to rfl fun M hM => ?_
  simp only [pop, St.eval, constSlot, upd_at, Nat.reduceEqDiff, if_true, if_false, popIf, true_implies, false_implies, Bool.true_eq_false, Bool.false_eq_true, reduceCtorEq, true_and, and_true, g5_0]
  refine hM _ _ ?_
  clear hM M
  exact pops_done (hJ5 _ (wk_same (wk_any ((wk_any (Wk.refl _ _))))))
 simp only [List.drop_succ_cons, List.drop_zero, anyAt_cons, anyAt_nil]
 refine pops_mv (.inl rfl) rfl (by simp only [St.eval, upd_at, Nat.reduceEqDiff, if_true, if_false] <;> rfl) ?_
 apply pops_or0 7 9 16 [10, 11, 12, 13, 14, 15] (by simp only [upd_at, Nat.reduceEqDiff, if_true, if_false] <;> rfl)
 ·skip
  intro g9_0 J6 hJ6
  simp only [List.take_succ_cons, List.take_zero]
  simp only [anyAt_cons, anyAt_nil] at hJ6
  refine pops_mvg (.inl rfl) rfl rfl (by simp only [upd_at, Nat.reduceEqDiff, if_true, if_false, g9_0]) (by simp only [St.eval, upd_at, Nat.reduceEqDiff, if_true, if_false, g9_0] <;> rfl) ?_
  refine pops_do rfl rfl (by simp only [upd_at, Nat.reduceEqDiff, if_true, if_false, g9_0]) fun M hM => ?_
  simp only [pop, St.eval, constSlot, upd_at, Nat.reduceEqDiff, if_true, if_false, popBin, binK, intK, strK, eqK, eq_self, true_and, and_true, g9_0]
  refine hM _ _ ?_
  clear hM M
  refine pops_mvg (.inl rfl) rfl rfl (by simp only [upd_at, Nat.reduceEqDiff, if_true, if_false, g9_0]) (by simp only [St.eval, upd_at, Nat.reduceEqDiff, if_true, if_false, g9_0] <;> rfl) ?_
  apply pops_and0 3 12 15 [13, 14] (by simp only [upd_at, Nat.reduceEqDiff, if_true, if_false, g9_0] <;> rfl)
  ·skip
   intro g12_1 J7 hJ7
   simp only [List.take_succ_cons, List.take_zero]
   simp only [anyAt_cons, anyAt_nil] at hJ7
   refine pops_mvg (.inl rfl) rfl rfl (by simp only [upd_at, Nat.reduceEqDiff, if_true, if_false, g9_0, g12_1]) (by simp only [St.eval, upd_at, Nat.reduceEqDiff, if_true, if_false, g9_0, g12_1] <;> rfl) ?_
   refine pops_do rfl rfl (by simp only [upd_at, Nat.reduceEqDiff, if_true, if_false, g9_0, g12_1]) fun M hM => ?_
   simp only [pop, St.eval, constSlot, upd_at, Nat.reduceEqDiff, if_true, if_false, popBin, binK, intK, strK, eqK, eq_self, true_and, and_true, g9_0, g12_1]
   refine hM _ _ ?_
   clear hM M
   refine pops_do rfl rfl (by simp only [upd_at, Nat.reduceEqDiff, if_true, if_false, g9_0, g12_1]) fun M hM => ?_
   simp only [pop, St.eval, constSlot, upd_at, Nat.reduceEqDiff, if_true, if_false, popIf, true_implies, false_implies, Bool.true_eq_false, Bool.false_eq_true, reduceCtorEq, true_and, and_true, g9_0, g12_1]
   refine hM _ _ ?_
   clear hM M
   exact pops_done (hJ7 _ (wk_same (wk_any ((wk_any (Wk.refl _ _))))))
  ·skip
   intro g12_1 J7 hJ7
   simp only [List.take_succ_cons, List.take_zero]
   simp only [anyAt_cons, anyAt_nil] at hJ7
   refine pops_off (b := false) rfl rfl (by simp only [upd_at, Nat.reduceEqDiff, if_true, if_false, g9_0, g12_1]) (by decide) ?_
   refine pops_off (b := false) rfl rfl (by simp only [upd_at, Nat.reduceEqDiff, if_true, if_false, g9_0, g12_1]) (by decide) ?_
   refine pops_do rfl rfl (by simp only [upd_at, Nat.reduceEqDiff, if_true, if_false, g9_0, g12_1]) fun M hM => ?_
   simp only [pop, St.eval, constSlot, upd_at, Nat.reduceEqDiff, if_true, if_false, popIf, true_implies, false_implies, Bool.true_eq_false, Bool.false_eq_true, reduceCtorEq, true_and, and_true, g9_0, g12_1]
   refine hM _ _ ?_
   clear hM M
   exact pops_done (hJ7 _ (wk_same (wk_any ((wk_any (Wk.refl _ _))))))
  simp only [List.drop_succ_cons, List.drop_zero, anyAt_cons, anyAt_nil]
  refine pops_to rfl fun M hM => ?_
  simp only [pop, St.eval, constSlot, upd_at, Nat.reduceEqDiff, if_true, if_false, popIf, true_implies, false_implies, Bool.true_eq_false, Bool.false_eq_true, reduceCtorEq, true_and, and_true, g9_0]
  refine hM _ _ ?_
  clear hM M
  exact pops_done (hJ6 _ (wk_same (wk_any ((wk_any ((wk_any ((wk_any ((wk_any ((wk_any (Wk.refl _ _))))))))))))))
 ·skip
  intro g9_0 J6 hJ6
  simp only [List.take_succ_cons, List.take_zero]
  simp only [anyAt_cons, anyAt_nil] at hJ6
  refine pops_off (b := true) rfl rfl (by simp only [upd_at, Nat.reduceEqDiff, if_true, if_false, g9_0]) (by decide) ?_
  refine pops_off (b := true) rfl rfl (by simp only [upd_at, Nat.reduceEqDiff, if_true, if_false, g9_0]) (by decide) ?_
  refine pops_off (b := true) rfl rfl (by simp only [upd_at, Nat.reduceEqDiff, if_true, if_false, g9_0]) (by decide) ?_
  refine pops_off0 rfl rfl (by simp only [upd_at, Nat.reduceEqDiff, if_true, if_false, g9_0]) ?_
  refine pops_off0 rfl rfl (by simp only [upd_at, Nat.reduceEqDiff, if_true, if_false, g9_0]) ?_
  refine pops_off (b := true) rfl rfl (by simp only [upd_at, Nat.reduceEqDiff, if_true, if_false, g9_0]) (by decide) ?_
  refine pops_to rfl fun M hM => ?_
  simp only [pop, St.eval, constSlot, upd_at, Nat.reduceEqDiff, if_true, if_false, popIf, true_implies, false_implies, Bool.true_eq_false, Bool.false_eq_true, reduceCtorEq, true_and, and_true, g9_0]
  refine hM _ _ ?_
  clear hM M
  exact pops_done (hJ6 _ (wk_same (wk_any ((wk_any ((wk_any ((wk_any ((wk_any ((wk_any (Wk.refl _ _))))))))))))))
 simp only [List.drop_succ_cons, List.drop_zero, anyAt_cons, anyAt_nil]
 refine pops_mv (.inl rfl) rfl (by simp only [St.eval, upd_at, Nat.reduceEqDiff, if_true, if_false] <;> rfl) ?_
 apply pops_or0 7 17 24 [18, 19, 20, 21, 22, 23] (by simp only [upd_at, Nat.reduceEqDiff, if_true, if_false] <;> rfl)
 ·skip
  intro g17_0 J8 hJ8
  simp only [List.take_succ_cons, List.take_zero]
  simp only [anyAt_cons, anyAt_nil] at hJ8
  refine pops_mvg (.inl rfl) rfl rfl (by simp only [upd_at, Nat.reduceEqDiff, if_true, if_false, g17_0]) (by simp only [St.eval, upd_at, Nat.reduceEqDiff, if_true, if_false, g17_0] <;> rfl) ?_
  refine pops_do rfl rfl (by simp only [upd_at, Nat.reduceEqDiff, if_true, if_false, g17_0]) fun M hM => ?_
  simp only [pop, St.eval, constSlot, upd_at, Nat.reduceEqDiff, if_true, if_false, popBin, binK, intK, strK, eqK, eq_self, true_and, and_true, g17_0]
  refine hM _ _ ?_
  clear hM M
  refine pops_mvg (.inl rfl) rfl rfl (by simp only [upd_at, Nat.reduceEqDiff, if_true, if_false, g17_0]) (by simp only [St.eval, upd_at, Nat.reduceEqDiff, if_true, if_false, g17_0] <;> rfl) ?_
  apply pops_and0 3 20 23 [21, 22] (by simp only [upd_at, Nat.reduceEqDiff, if_true, if_false, g17_0] <;> rfl)
  ·skip
   intro g20_1 J9 hJ9
   simp only [List.take_succ_cons, List.take_zero]
   simp only [anyAt_cons, anyAt_nil] at hJ9
   refine pops_mvg (.inl rfl) rfl rfl (by simp only [upd_at, Nat.reduceEqDiff, if_true, if_false, g17_0, g20_1]) (by simp only [St.eval, upd_at, Nat.reduceEqDiff, if_true, if_false, g17_0, g20_1] <;> rfl) ?_
   refine pops_do rfl rfl (by simp only [upd_at, Nat.reduceEqDiff, if_true, if_false, g17_0, g20_1]) fun M hM => ?_
   simp only [pop, St.eval, constSlot, upd_at, Nat.reduceEqDiff, if_true, if_false, popBin, binK, intK, strK, eqK, eq_self, true_and, and_true, g17_0, g20_1]
   refine hM _ _ ?_
   clear hM M
   refine pops_do rfl rfl (by simp only [upd_at, Nat.reduceEqDiff, if_true, if_false, g17_0, g20_1]) fun M hM => ?_
   simp only [pop, St.eval, constSlot, upd_at, Nat.reduceEqDiff, if_true, if_false, popIf, true_implies, false_implies, Bool.true_eq_false, Bool.false_eq_true, reduceCtorEq, true_and, and_true, g17_0, g20_1]
   refine hM _ _ ?_
   clear hM M
   exact pops_done (hJ9 _ (wk_same (wk_any ((wk_any (Wk.refl _ _))))))
  ·skip
   intro g20_1 J9 hJ9
   simp only [List.take_succ_cons, List.take_zero]
   simp only [anyAt_cons, anyAt_nil] at hJ9
   refine pops_off (b := false) rfl rfl (by simp only [upd_at, Nat.reduceEqDiff, if_true, if_false, g17_0, g20_1]) (by decide) ?_
   refine pops_off (b := false) rfl rfl (by simp only [upd_at, Nat.reduceEqDiff, if_true, if_false, g17_0, g20_1]) (by decide) ?_
   refine pops_do rfl rfl (by simp only [upd_at, Nat.reduceEqDiff, if_true, if_false, g17_0, g20_1]) fun M hM => ?_
   simp only [pop, St.eval, constSlot, upd_at, Nat.reduceEqDiff, if_true, if_false, popIf, true_implies, false_implies, Bool.true_eq_false, Bool.false_eq_true, reduceCtorEq, true_and, and_true, g17_0, g20_1]
   refine hM _ _ ?_
   clear hM M
   exact pops_done (hJ9 _ (wk_same (wk_any ((wk_any (Wk.refl _ _))))))
  simp only [List.drop_succ_cons, List.drop_zero, anyAt_cons, anyAt_nil]
  refine pops_to rfl fun M hM => ?_
  simp only [pop, St.eval, constSlot, upd_at, Nat.reduceEqDiff, if_true, if_false, popIf, true_implies, false_implies, Bool.true_eq_false, Bool.false_eq_true, reduceCtorEq, true_and, and_true, g17_0]
  refine hM _ _ ?_
  clear hM M
  exact pops_done (hJ8 _ (wk_same (wk_any ((wk_any ((wk_any ((wk_any ((wk_any ((wk_any (Wk.refl _ _))))))))))))))
 ·skip
  intro g17_0 J8 hJ8
  simp only [List.take_succ_cons, List.take_zero]
  simp only [anyAt_cons, anyAt_nil] at hJ8
  refine pops_off (b := true) rfl rfl (by simp only [upd_at, Nat.reduceEqDiff, if_true, if_false, g17_0]) (by decide) ?_
  refine pops_off (b := true) rfl rfl (by simp only [upd_at, Nat.reduceEqDiff, if_true, if_false, g17_0]) (by decide) ?_
  refine pops_off (b := true) rfl rfl (by simp only [upd_at, Nat.reduceEqDiff, if_true, if_false, g17_0]) (by decide) ?_
  refine pops_off0 rfl rfl (by simp only [upd_at, Nat.reduceEqDiff, if_true, if_false, g17_0]) ?_
  refine pops_off0 rfl rfl (by simp only [upd_at, Nat.reduceEqDiff, if_true, if_false, g17_0]) ?_
  refine pops_off (b := true) rfl rfl (by simp only [upd_at, Nat.reduceEqDiff, if_true, if_false, g17_0]) (by decide) ?_
  refine pops_to rfl fun M hM => ?_
  simp only [pop, St.eval, constSlot, upd_at, Nat.reduceEqDiff, if_true, if_false, popIf, true_implies, false_implies, Bool.true_eq_false, Bool.false_eq_true, reduceCtorEq, true_and, and_true, g17_0]
  refine hM _ _ ?_
  clear hM M
  exact pops_done (hJ8 _ (wk_same (wk_any ((wk_any ((wk_any ((wk_any ((wk_any ((wk_any (Wk.refl _ _))))))))))))))
 simp only [List.drop_succ_cons, List.drop_zero, anyAt_cons, anyAt_nil]
 refine pops_mv (.inr rfl) rfl (by simp only [St.eval, upd_at, Nat.reduceEqDiff, if_true, if_false] <;> rfl) ?_
 refine pops_done (hR4 _ ?_)
 clear hR4 R4
 try simp only [thenK, scopeK]
 refine hN3 _ ?_
 clear hN3 N3
 refine pwp_ret ?_
 simp only [thenK, blockK, scopeK, bodyK]
 refine ⟨_, rfl, endFun (Same.refl _) ?_⟩
 try simp only [upd_at, Nat.reduceEqDiff, if_true, if_false]
 all_goals
  rw [alnum_low]

theorem nm45 : (Tryd.f45.name == "runtime.NumGoroutine") = false := by kernel_rfl
theorem checkEncRef_fun (W0 : World) (x : Enc) (hf : ∀ y ∈ [x.forbid, x.head, x.tail], y.length ≤ 9223372036854775807) (hnl : x.names.length ≤ 9223372036854775807) :
  PFun Tryd.prog W0 45 [.agg (encPV x)] (.sv (.one (pint (encCheckR x)))) := by
 intro h
 have hL3 : [x.forbid, x.head, x.tail].length = 3 := rfl
 refine pcalls1 (n := 100) Tryd.func45 rfl nm45 rfl fun hb => ?_
 refine pwp_then fun N1 hN1 => ?_
 refine pwp_reg fun R2 hR2 => ?_
 refine pops_to rfl fun M hM => ?_
 simp only [pop, St.eval, constSlot, upd_at, Nat.reduceEqDiff, if_true, if_false, popBox, popBoxRo, slotCells, encPV]
 refine .inr ⟨Nat.succ_pos _, hM _ _ ?_⟩
 clear hM M
 refine pops_mv (.inr rfl) rfl (by simp only [St.eval, constSlot] <;> rfl) ?_
 refine pops_done (hR2 _ ?_)
 clear hR2 R2
 try simp only [thenK, scopeK]
 refine hN1 _ ?_
 clear hN1 N1
 refine pwp_then fun N3 hN3 => ?_
 refine pwp_then fun N4 hN4 => ?_
 refine pwp_reg fun R5 hR5 => ?_
 refine pops_to rfl fun M hM => ?_
 simp only [pop, St.eval, constSlot, upd_at, Nat.reduceEqDiff, if_true, if_false, popFieldAddr, fieldOf, List.drop_succ_cons, List.drop_zero, List.getElem?_toArray, List.getElem?_cons_zero, List.getElem?_cons_succ, Tryd.underlying64, sz9, encPV]
 refine ⟨⟨_, rfl⟩, hM _ _ ?_⟩
 clear hM M
 refine pops_to rfl fun M hM => ?_
 simp only [pop, St.eval, constSlot, upd_at, Nat.reduceEqDiff, if_true, if_false, popLoad, loadK, isAggD, List.drop_zero, List.getElem?_toArray, List.getElem?_cons_zero, List.getElem?_cons_succ, Bool.false_eq_true, Tryd.underlying9, sz9, eq_self, true_and, and_true, encPV]
 refine hM _ _ ?_
 clear hM M
 refine pops_to rfl fun M hM => ?_
 simp only [pop, St.eval, constSlot, upd_at, Nat.reduceEqDiff, if_true, if_false, popFieldAddr, fieldOf, List.drop_succ_cons, List.drop_zero, List.getElem?_toArray, List.getElem?_cons_zero, List.getElem?_cons_succ, Tryd.underlying64, sz9, encPV]
 refine ⟨⟨_, rfl⟩, hM _ _ ?_⟩
 clear hM M
 refine pops_to rfl fun M hM => ?_
 simp only [pop, St.eval, constSlot, upd_at, Nat.reduceEqDiff, if_true, if_false, popLoad, loadK, isAggD, List.drop_zero, List.getElem?_toArray, List.getElem?_cons_zero, List.getElem?_cons_succ, Bool.false_eq_true, Tryd.underlying9, sz9, eq_self, true_and, and_true, encPV]
 refine hM _ _ ?_
 clear hM M
 refine pops_to rfl fun M hM => ?_
 simp only [pop, St.eval, constSlot, upd_at, Nat.reduceEqDiff, if_true, if_false, popFieldAddr, fieldOf, List.drop_succ_cons, List.drop_zero, List.getElem?_toArray, List.getElem?_cons_zero, List.getElem?_cons_succ, Tryd.underlying64, sz9, encPV]
 refine ⟨⟨_, rfl⟩, hM _ _ ?_⟩
 clear hM M
 refine pops_to rfl fun M hM => ?_
 simp only [pop, St.eval, constSlot, upd_at, Nat.reduceEqDiff, if_true, if_false, popLoad, loadK, isAggD, List.drop_zero, List.getElem?_toArray, List.getElem?_cons_zero, List.getElem?_cons_succ, Bool.false_eq_true, Tryd.underlying9, sz9, eq_self, true_and, and_true, encPV]
 refine hM _ _ ?_
 clear hM M
 refine pops_to rfl fun M hM => ?_
 simp only [pop, St.eval, constSlot, upd_at, Nat.reduceEqDiff, if_true, if_false, popBuildSlice, slotCells, List.toList_toArray, List.map_cons, List.map_nil, List.mapM_cons, List.mapM_nil, Option.bind_eq_bind, Option.bind_some, Option.pure_def, Tryd.underlying49, sz9, ze9, by9, eq_self, true_and, and_true, str_list, str_size, str_app, str_cut, str_get, encPV]
 refine ⟨by decide, by decide, rfl, rfl, by simp, by decide, rfl, hM _ _ ?_⟩
 clear hM M
 refine pops_to rfl fun M hM => ?_
 simp only [pop, St.eval, constSlot, upd_at, Nat.reduceEqDiff, if_true, if_false, popCall, List.toList_toArray, List.map_cons, List.map_nil, popBuiltin, popLen, lenOfSlot, List.length_map, Tryd.underlying49, eq_self, true_and, and_true, str_list, str_size, str_app, str_cut, str_get, encPV]
 refine hM _ _ ?_
 clear hM M
 refine pops_mv (.inl rfl) rfl (by simp only [St.eval, constSlot] <;> rfl) ?_
 refine pops_done (hR5 _ ?_)
 clear hR5 R5
 try simp only [thenK, scopeK]
 refine hN4 _ ?_
 clear hN4 N4
 refine pwp_block ?_
 refine pwp_loop (fun k σ => ∃ (i : Nat), (k = [x.forbid, x.head, x.tail].length - i) ∧ (i ≤ [x.forbid, x.head, x.tail].length) ∧ (∀ y ∈ [x.forbid, x.head, x.tail].take i, formB x.kase y = true) ∧ (Same h σ.hp) ∧ (σ.env 1 = .sv (.one (.rop (encPV x)))) ∧ (σ.env 15 = .sv (.one (.ro true 1 (pstrs [x.forbid, x.head, x.tail])))) ∧ (σ.env 16 = .sv (.one (pint ([x.forbid, x.head, x.tail].length : Nat)))) ∧ (σ.env 17 = .sv (.one (pint (i : Nat))))) _ ⟨_, .refl _ _, 0, rfl, ?_⟩ ?_
 · exact ⟨Nat.zero_le _, by simp, (Same.refl _), by simp only [upd_at, Nat.reduceEqDiff, if_true, if_false, encPV], by simp only [upd_at, Nat.reduceEqDiff, if_true, if_false]; rfl, by simp only [upd_at, Nat.reduceEqDiff, if_true, if_false]; rfl, by simp only [upd_at, Nat.reduceEqDiff, if_true, if_false]; rfl⟩
 ·rintro k ⟨e, hp0⟩ ⟨i, hk0, hx0_0, hx0_1, sl0, e0_1, e0_15, e0_16, e0_17⟩
  simp only at sl0 e0_1 e0_15 e0_16 e0_17
  refine pwp_then fun N6 hN6 => ?_
  refine pwp_reg fun R7 hR7 => ?_
  refine pops_to rfl fun M hM => ?_
  simp only [pop, St.eval, constSlot, upd_at, Nat.reduceEqDiff, if_true, if_false, popBin, binK, intK, strK, eqK, eq_self, true_and, and_true, e0_1, e0_15, e0_16, e0_17, encPV]
  refine hM _ _ ?_
  clear hM M
  refine pops_done (hR7 _ ?_)
  clear hR7 R7
  try simp only [thenK, scopeK]
  refine hN6 _ ?_
  clear hN6 N6
  refine pwp_then fun N8 hN8 => ?_
  refine pwp_cond (by simp only [St.eval, upd_at, Nat.reduceEqDiff, if_true, if_false, e0_1, e0_15, e0_16, e0_17, encPV] <;> rfl) (fun c18 => ?_) (fun c18 => ?_)
  ·skip
   have hi : i < [x.forbid, x.head, x.tail].length := by have := of_decide_eq_true c18; omega
   obtain ⟨s, hs⟩ : ∃ s, [x.forbid, x.head, x.tail][i]? = some s := ⟨_, List.getElem?_eq_getElem hi⟩
   have hget : (pstrs [x.forbid, x.head, x.tail])[i]? = some [pstr s] := by simp only [List.getElem?_map, hs, Option.map_some]
   have hsl := hf s (List.mem_of_getElem? hs)
   refine pwp_skip ?_
   try simp only [thenK, scopeK]
   refine hN8 _ ?_
   clear hN8 N8
   refine pwp_then fun N9 hN9 => ?_
   refine pwp_block ?_
   refine pwp_then fun N10 hN10 => ?_
   refine pwp_reg fun R11 hR11 => ?_
   refine pops_to rfl fun M hM => ?_
   simp only [pop, St.eval, constSlot, upd_at, Nat.reduceEqDiff, if_true, if_false, popIndexAddr, Tryd.underlying49, sz9, eq_self, true_and, and_true, str_list, str_size, str_app, str_cut, str_get, e0_1, e0_15, e0_16, e0_17, encPV, hget, Int.toNat_natCast]
   refine ⟨Int.natCast_nonneg _, hM _ _ ?_⟩
   clear hM M
   refine pops_to rfl fun M hM => ?_
   simp only [pop, St.eval, constSlot, upd_at, Nat.reduceEqDiff, if_true, if_false, popLoad, loadK, isAggD, List.drop_zero, List.getElem?_toArray, List.getElem?_cons_zero, List.getElem?_cons_succ, Bool.false_eq_true, Tryd.underlying9, sz9, eq_self, true_and, and_true, e0_1, e0_15, e0_16, e0_17, encPV, hget, Int.toNat_natCast]
   refine hM _ _ ?_
   clear hM M
   refine pops_mv (.inr rfl) rfl (by simp only [St.eval, upd_at, Nat.reduceEqDiff, if_true, if_false, e0_1, e0_15, e0_16, e0_17, encPV, hget, Int.toNat_natCast] <;> rfl) ?_
   refine pops_done (hR11 _ ?_)
   clear hR11 R11
   try simp only [thenK, scopeK]
   refine hN10 _ ?_
   clear hN10 N10
   refine pwp_then fun N12 hN12 => ?_
   refine pwp_reg fun R13 hR13 => ?_
   refine pops_mv (.inl rfl) rfl (by simp only [St.eval, upd_at, Nat.reduceEqDiff, if_true, if_false, e0_1, e0_15, e0_16, e0_17, encPV, hget, Int.toNat_natCast] <;> rfl) ?_
   refine pops_to rfl fun M hM => ?_
   simp only [pop, St.eval, constSlot, upd_at, Nat.reduceEqDiff, if_true, if_false, popCall, List.toList_toArray, List.map_cons, List.map_nil, popBuiltin, popLen, lenOfSlot, List.length_map, Tryd.underlying9, eq_self, true_and, and_true, str_list, str_size, str_app, str_cut, str_get, e0_1, e0_15, e0_16, e0_17, encPV, hget, Int.toNat_natCast]
   refine hM _ _ ?_
   clear hM M
   refine pops_mv (.inl rfl) rfl (by simp only [St.eval, constSlot] <;> rfl) ?_
   refine pops_done (hR13 _ ?_)
   clear hR13 R13
   try simp only [thenK, scopeK]
   refine hN12 _ ?_
   clear hN12 N12
   refine pwp_block ?_
   refine pwp_loop (fun k σ => ∃ (j : Nat), (k = s.length - j) ∧ (j ≤ s.length) ∧ (∀ m < j, ∀ c, s[m]? = some c → ((s.drop (m + 1)).contains c || badB x.kase c) = false) ∧ (Same h σ.hp) ∧ (σ.env 1 = .sv (.one (.rop (encPV x)))) ∧ (σ.env 15 = .sv (.one (.ro true 1 (pstrs [x.forbid, x.head, x.tail])))) ∧ (σ.env 16 = .sv (.one (pint ([x.forbid, x.head, x.tail].length : Nat)))) ∧ (σ.env 17 = .sv (.one (pint (i : Nat)))) ∧ (σ.env 4 = .sv (.one (pstr s))) ∧ (σ.env 22 = .sv (.one (pint (s.length : Nat)))) ∧ (σ.env 23 = .sv (.one (pint (j : Nat))))) _ ⟨_, .refl _ _, 0, rfl, ?_⟩ ?_
   · exact ⟨Nat.zero_le _, by intro m hm; omega, sl0, by simp only [upd_at, Nat.reduceEqDiff, if_true, if_false, e0_1, e0_15, e0_16, e0_17, encPV, hget, Int.toNat_natCast], by simp only [upd_at, Nat.reduceEqDiff, if_true, if_false, e0_1, e0_15, e0_16, e0_17, encPV, hget, Int.toNat_natCast], by simp only [upd_at, Nat.reduceEqDiff, if_true, if_false, e0_1, e0_15, e0_16, e0_17, encPV, hget, Int.toNat_natCast], by simp only [upd_at, Nat.reduceEqDiff, if_true, if_false, e0_1, e0_15, e0_16, e0_17, encPV, hget, Int.toNat_natCast], by simp only [upd_at, Nat.reduceEqDiff, if_true, if_false, e0_1, e0_15, e0_16, e0_17, encPV, hget, Int.toNat_natCast], by simp only [upd_at, Nat.reduceEqDiff, if_true, if_false, e0_1, e0_15, e0_16, e0_17, encPV, hget, Int.toNat_natCast], by simp only [upd_at, Nat.reduceEqDiff, if_true, if_false]; rfl⟩
   ·rintro k ⟨e, hp1⟩ ⟨j, hk1, hx1_0, hx1_1, sl1, e1_1, e1_15, e1_16, e1_17, e1_4, e1_22, e1_23⟩
    simp only at sl1 e1_1 e1_15 e1_16 e1_17 e1_4 e1_22 e1_23
    refine pwp_then fun N14 hN14 => ?_
    refine pwp_reg fun R15 hR15 => ?_
    refine pops_to rfl fun M hM => ?_
    simp only [pop, St.eval, constSlot, upd_at, Nat.reduceEqDiff, if_true, if_false, popBin, binK, intK, strK, eqK, eq_self, true_and, and_true, e1_1, e1_15, e1_16, e1_17, e1_4, e1_22, e1_23, encPV]
    refine hM _ _ ?_
    clear hM M
    refine pops_done (hR15 _ ?_)
    clear hR15 R15
    try simp only [thenK, scopeK]
    refine hN14 _ ?_
    clear hN14 N14
    refine pwp_then fun N16 hN16 => ?_
    refine pwp_cond (by simp only [St.eval, upd_at, Nat.reduceEqDiff, if_true, if_false, e1_1, e1_15, e1_16, e1_17, e1_4, e1_22, e1_23, encPV] <;> rfl) (fun c24 => ?_) (fun c24 => ?_)
    ·skip
     have hj : j < s.length := by have := of_decide_eq_true c24; omega
     obtain ⟨c, hx⟩ : ∃ c, s[j]? = some c := ⟨_, List.getElem?_eq_getElem hj⟩
     have hwj := wrap_succ (i := j) (by omega)
     refine pwp_skip ?_
     try simp only [thenK, scopeK]
     refine hN16 _ ?_
     clear hN16 N16
     refine pwp_then fun N17 hN17 => ?_
     refine pwp_block ?_
     refine pwp_then fun N18 hN18 => ?_
     refine pwp_reg fun R19 hR19 => ?_
     refine pops_mv (.inl rfl) rfl (by simp only [St.eval, upd_at, Nat.reduceEqDiff, if_true, if_false, e1_1, e1_15, e1_16, e1_17, e1_4, e1_22, e1_23, encPV] <;> rfl) ?_
     refine pops_mv (.inr rfl) rfl (by simp only [St.eval, upd_at, Nat.reduceEqDiff, if_true, if_false, e1_1, e1_15, e1_16, e1_17, e1_4, e1_22, e1_23, encPV] <;> rfl) ?_
     refine pops_done (hR19 _ ?_)
     clear hR19 R19
     try simp only [thenK, scopeK]
     refine hN18 _ ?_
     clear hN18 N18
     refine pwp_then fun N20 hN20 => ?_
     refine pwp_reg fun R21 hR21 => ?_
     refine pops_mv (.inl rfl) rfl (by simp only [St.eval, upd_at, Nat.reduceEqDiff, if_true, if_false, e1_1, e1_15, e1_16, e1_17, e1_4, e1_22, e1_23, encPV] <;> rfl) ?_
     refine pops_mv (.inl rfl) rfl (by simp only [St.eval, upd_at, Nat.reduceEqDiff, if_true, if_false, e1_1, e1_15, e1_16, e1_17, e1_4, e1_22, e1_23, encPV] <;> rfl) ?_
     refine pops_to rfl fun M hM => ?_
     simp only [pop, St.eval, constSlot, upd_at, Nat.reduceEqDiff, if_true, if_false, popIndex, partK, Tryd.underlying9, eq_self, true_and, and_true, str_list, str_size, str_app, str_cut, str_get, e1_1, e1_15, e1_16, e1_17, e1_4, e1_22, e1_23, encPV, hx, Int.toNat_natCast]
     refine ⟨Int.natCast_nonneg _, hM _ _ ?_⟩
     clear hM M
     refine pops_mv (.inr rfl) rfl (by simp only [St.eval, upd_at, Nat.reduceEqDiff, if_true, if_false, e1_1, e1_15, e1_16, e1_17, e1_4, e1_22, e1_23, encPV] <;> rfl) ?_
     refine pops_done (hR21 _ ?_)
     clear hR21 R21
     try simp only [thenK, scopeK]
     refine hN20 _ ?_
     clear hN20 N20
     refine pwp_then fun N22 hN22 => ?_
     refine pwp_reg fun R23 hR23 => ?_
     refine pops_mv (.inl rfl) rfl (by simp only [St.eval, upd_at, Nat.reduceEqDiff, if_true, if_false, e1_1, e1_15, e1_16, e1_17, e1_4, e1_22, e1_23, encPV] <;> rfl) ?_
     refine pops_mv (.inl rfl) rfl (by simp only [St.eval, upd_at, Nat.reduceEqDiff, if_true, if_false, e1_1, e1_15, e1_16, e1_17, e1_4, e1_22, e1_23, encPV] <;> rfl) ?_
     refine pops_to rfl fun M hM => ?_
     simp only [pop, St.eval, constSlot, upd_at, Nat.reduceEqDiff, if_true, if_false, popBin, binK, intK, strK, eqK, eq_self, true_and, and_true, e1_1, e1_15, e1_16, e1_17, e1_4, e1_22, e1_23, encPV, hwj]
     refine hM _ _ ?_
     clear hM M
     refine pops_to rfl fun M hM => ?_
     simp only [pop, St.eval, constSlot, upd_at, Nat.reduceEqDiff, if_true, if_false, popSlice, boundOf, Option.map_none, Option.map_some, Tryd.underlying9, eq_self, true_and, and_true, str_list, str_size, str_app, str_cut, str_get, e1_1, e1_15, e1_16, e1_17, e1_4, e1_22, e1_23, encPV, Int.toNat_natCast, hwj, List.take_length]
     refine ⟨by omega, by omega, by omega, hM _ _ ?_⟩
     clear hM M
     refine pops_mv (.inl rfl) rfl (by simp only [St.eval, upd_at, Nat.reduceEqDiff, if_true, if_false, e1_1, e1_15, e1_16, e1_17, e1_4, e1_22, e1_23, encPV] <;> rfl) ?_
     refine pops_to rfl fun M hM => ?_
     simp only [pop, St.eval, constSlot, upd_at, Nat.reduceEqDiff, if_true, if_false, popCall, List.toList_toArray, List.map_cons, List.map_nil, svs, List.mapM_cons, List.mapM_nil, Option.bind_eq_bind, Option.bind_some, Option.pure_def, List.append_nil, List.cons_append, List.nil_append, str_size, e1_1, e1_15, e1_16, e1_17, e1_4, e1_22, e1_23, encPV]
     refine PFun.use (indexByte_fun W0 (s.drop (j + 1)) c) fun h1 s1 => hM _ _ ?_
     replace s1 := Same.trans sl1 s1
     clear hM M
     refine pops_to rfl fun M hM => ?_
     simp only [pop, St.eval, constSlot, upd_at, Nat.reduceEqDiff, if_true, if_false, popBin, binK, intK, strK, eqK, eq_self, true_and, and_true, e1_1, e1_15, e1_16, e1_17, e1_4, e1_22, e1_23, encPV]
     refine hM _ _ ?_
     clear hM M
     refine pops_mv (.inl rfl) rfl (by simp only [St.eval, upd_at, Nat.reduceEqDiff, if_true, if_false, e1_1, e1_15, e1_16, e1_17, e1_4, e1_22, e1_23, encPV] <;> rfl) ?_
     apply pops_or 3 36 39 [37, 38] (by simp only [upd_at, Nat.reduceEqDiff, if_true, if_false, e1_1, e1_15, e1_16, e1_17, e1_4, e1_22, e1_23, encPV] <;> rfl)
     ·skip
      intro g36_0 J24 hJ24
      simp only [List.take_succ_cons, List.take_zero]
      simp only [anyAt_cons, anyAt_nil] at hJ24
      refine pops_mvg (.inl rfl) rfl rfl (by simp only [upd_at, Nat.reduceEqDiff, if_true, if_false, e1_1, e1_15, e1_16, e1_17, e1_4, e1_22, e1_23, encPV, g36_0]) (by simp only [St.eval, upd_at, Nat.reduceEqDiff, if_true, if_false, e1_1, e1_15, e1_16, e1_17, e1_4, e1_22, e1_23, encPV, g36_0] <;> rfl) ?_
      refine pops_do rfl rfl (by simp only [upd_at, Nat.reduceEqDiff, if_true, if_false, e1_1, e1_15, e1_16, e1_17, e1_4, e1_22, e1_23, encPV, g36_0]) fun M hM => ?_
      simp only [pop, St.eval, constSlot, upd_at, Nat.reduceEqDiff, if_true, if_false, popCall, List.toList_toArray, List.map_cons, List.map_nil, svs, List.mapM_cons, List.mapM_nil, Option.bind_eq_bind, Option.bind_some, Option.pure_def, List.append_nil, List.cons_append, List.nil_append, str_size, e1_1, e1_15, e1_16, e1_17, e1_4, e1_22, e1_23, encPV, g36_0]
      refine PFun.use (alnum_fun W0 c) fun h2 s2 => hM _ _ ?_
      replace s2 := Same.trans (Same.refl _) s2
      clear hM M
      refine pops_to rfl fun M hM => ?_
      simp only [pop, St.eval, constSlot, upd_at, Nat.reduceEqDiff, if_true, if_false, popIf, true_implies, false_implies, Bool.true_eq_false, Bool.false_eq_true, reduceCtorEq, true_and, and_true, e1_1, e1_15, e1_16, e1_17, e1_4, e1_22, e1_23, encPV, g36_0]
      refine hM _ _ ?_
      clear hM M
      exact pops_done (hJ24 _ _ s2 (wk_same (wk_any ((wk_any (Wk.refl _ _))))))
     ·skip
      intro g36_0 J24 hJ24
      simp only [List.take_succ_cons, List.take_zero]
      simp only [anyAt_cons, anyAt_nil] at hJ24
      refine pops_off (b := true) rfl rfl (by simp only [upd_at, Nat.reduceEqDiff, if_true, if_false, e1_1, e1_15, e1_16, e1_17, e1_4, e1_22, e1_23, encPV, g36_0]) (by decide) ?_
      refine pops_off (b := true) rfl rfl (by simp only [upd_at, Nat.reduceEqDiff, if_true, if_false, e1_1, e1_15, e1_16, e1_17, e1_4, e1_22, e1_23, encPV, g36_0]) (by decide) ?_
      refine pops_to rfl fun M hM => ?_
      simp only [pop, St.eval, constSlot, upd_at, Nat.reduceEqDiff, if_true, if_false, popIf, true_implies, false_implies, Bool.true_eq_false, Bool.false_eq_true, reduceCtorEq, true_and, and_true, e1_1, e1_15, e1_16, e1_17, e1_4, e1_22, e1_23, encPV, g36_0]
      refine hM _ _ ?_
      clear hM M
      exact pops_done (hJ24 _ _ (Same.refl _) (wk_same (wk_any ((wk_any (Wk.refl _ _))))))
     simp only [List.drop_succ_cons, List.drop_zero, anyAt_cons, anyAt_nil]
     intro hj24 sj24
     replace sj24 := Same.trans s1 sj24
     refine pops_mv (.inl rfl) rfl (by simp only [St.eval, upd_at, Nat.reduceEqDiff, if_true, if_false, e1_1, e1_15, e1_16, e1_17, e1_4, e1_22, e1_23, encPV] <;> rfl) ?_
     apply pops_or0 3 40 43 [41, 42] (by simp only [upd_at, Nat.reduceEqDiff, if_true, if_false, e1_1, e1_15, e1_16, e1_17, e1_4, e1_22, e1_23, encPV] <;> rfl)
     ·skip
      intro g40_0 J25 hJ25
      simp only [List.take_succ_cons, List.take_zero]
      simp only [anyAt_cons, anyAt_nil] at hJ25
      refine pops_mvg (.inl rfl) rfl rfl (by simp only [upd_at, Nat.reduceEqDiff, if_true, if_false, e1_1, e1_15, e1_16, e1_17, e1_4, e1_22, e1_23, encPV, g40_0]) (by simp only [St.eval, upd_at, Nat.reduceEqDiff, if_true, if_false, e1_1, e1_15, e1_16, e1_17, e1_4, e1_22, e1_23, encPV, g40_0] <;> rfl) ?_
      refine pops_do rfl rfl (by simp only [upd_at, Nat.reduceEqDiff, if_true, if_false, e1_1, e1_15, e1_16, e1_17, e1_4, e1_22, e1_23, encPV, g40_0]) fun M hM => ?_
      simp only [pop, St.eval, constSlot, upd_at, Nat.reduceEqDiff, if_true, if_false, popBin, binK, intK, strK, eqK, Tryd.underlying5, isPtr, eq_self, true_and, and_true, e1_1, e1_15, e1_16, e1_17, e1_4, e1_22, e1_23, encPV, g40_0]
      refine hM _ _ ?_
      clear hM M
      refine pops_to rfl fun M hM => ?_
      simp only [pop, St.eval, constSlot, upd_at, Nat.reduceEqDiff, if_true, if_false, popIf, true_implies, false_implies, Bool.true_eq_false, Bool.false_eq_true, reduceCtorEq, true_and, and_true, e1_1, e1_15, e1_16, e1_17, e1_4, e1_22, e1_23, encPV, g40_0]
      refine hM _ _ ?_
      clear hM M
      exact pops_done (hJ25 _ (wk_same (wk_any ((wk_any (Wk.refl _ _))))))
     ·skip
      intro g40_0 J25 hJ25
      simp only [List.take_succ_cons, List.take_zero]
      simp only [anyAt_cons, anyAt_nil] at hJ25
      refine pops_off (b := true) rfl rfl (by simp only [upd_at, Nat.reduceEqDiff, if_true, if_false, e1_1, e1_15, e1_16, e1_17, e1_4, e1_22, e1_23, encPV, g40_0]) (by decide) ?_
      refine pops_off (b := true) rfl rfl (by simp only [upd_at, Nat.reduceEqDiff, if_true, if_false, e1_1, e1_15, e1_16, e1_17, e1_4, e1_22, e1_23, encPV, g40_0]) (by decide) ?_
      refine pops_to rfl fun M hM => ?_
      simp only [pop, St.eval, constSlot, upd_at, Nat.reduceEqDiff, if_true, if_false, popIf, true_implies, false_implies, Bool.true_eq_false, Bool.false_eq_true, reduceCtorEq, true_and, and_true, e1_1, e1_15, e1_16, e1_17, e1_4, e1_22, e1_23, encPV, g40_0]
      refine hM _ _ ?_
      clear hM M
      exact pops_done (hJ25 _ (wk_same (wk_any ((wk_any (Wk.refl _ _))))))
     simp only [List.drop_succ_cons, List.drop_zero, anyAt_cons, anyAt_nil]
     refine pops_mv (.inl rfl) rfl (by simp only [St.eval, upd_at, Nat.reduceEqDiff, if_true, if_false, e1_1, e1_15, e1_16, e1_17, e1_4, e1_22, e1_23, encPV] <;> rfl) ?_
     apply pops_or0 3 44 47 [45, 46] (by simp only [upd_at, Nat.reduceEqDiff, if_true, if_false, e1_1, e1_15, e1_16, e1_17, e1_4, e1_22, e1_23, encPV] <;> rfl)
     ·skip
      intro g44_0 J26 hJ26
      simp only [List.take_succ_cons, List.take_zero]
      simp only [anyAt_cons, anyAt_nil] at hJ26
      refine pops_mvg (.inl rfl) rfl rfl (by simp only [upd_at, Nat.reduceEqDiff, if_true, if_false, e1_1, e1_15, e1_16, e1_17, e1_4, e1_22, e1_23, encPV, g44_0]) (by simp only [St.eval, upd_at, Nat.reduceEqDiff, if_true, if_false, e1_1, e1_15, e1_16, e1_17, e1_4, e1_22, e1_23, encPV, g44_0] <;> rfl) ?_
      refine pops_do rfl rfl (by simp only [upd_at, Nat.reduceEqDiff, if_true, if_false, e1_1, e1_15, e1_16, e1_17, e1_4, e1_22, e1_23, encPV, g44_0]) fun M hM => ?_
      simp only [pop, St.eval, constSlot, upd_at, Nat.reduceEqDiff, if_true, if_false, popBin, binK, intK, strK, eqK, Tryd.underlying5, isPtr, eq_self, true_and, and_true, e1_1, e1_15, e1_16, e1_17, e1_4, e1_22, e1_23, encPV, g44_0]
      refine hM _ _ ?_
      clear hM M
      refine pops_to rfl fun M hM => ?_
      simp only [pop, St.eval, constSlot, upd_at, Nat.reduceEqDiff, if_true, if_false, popIf, true_implies, false_implies, Bool.true_eq_false, Bool.false_eq_true, reduceCtorEq, true_and, and_true, e1_1, e1_15, e1_16, e1_17, e1_4, e1_22, e1_23, encPV, g44_0]
      refine hM _ _ ?_
      clear hM M
      exact pops_done (hJ26 _ (wk_same (wk_any ((wk_any (Wk.refl _ _))))))
     ·skip
      intro g44_0 J26 hJ26
      simp only [List.take_succ_cons, List.take_zero]
      simp only [anyAt_cons, anyAt_nil] at hJ26
      refine pops_off (b := true) rfl rfl (by simp only [upd_at, Nat.reduceEqDiff, if_true, if_false, e1_1, e1_15, e1_16, e1_17, e1_4, e1_22, e1_23, encPV, g44_0]) (by decide) ?_
      refine pops_off (b := true) rfl rfl (by simp only [upd_at, Nat.reduceEqDiff, if_true, if_false, e1_1, e1_15, e1_16, e1_17, e1_4, e1_22, e1_23, encPV, g44_0]) (by decide) ?_
      refine pops_to rfl fun M hM => ?_
      simp only [pop, St.eval, constSlot, upd_at, Nat.reduceEqDiff, if_true, if_false, popIf, true_implies, false_implies, Bool.true_eq_false, Bool.false_eq_true, reduceCtorEq, true_and, and_true, e1_1, e1_15, e1_16, e1_17, e1_4, e1_22, e1_23, encPV, g44_0]
      refine hM _ _ ?_
      clear hM M
      exact pops_done (hJ26 _ (wk_same (wk_any ((wk_any (Wk.refl _ _))))))
     simp only [List.drop_succ_cons, List.drop_zero, anyAt_cons, anyAt_nil]
     refine pops_mv (.inl rfl) rfl (by simp only [St.eval, upd_at, Nat.reduceEqDiff, if_true, if_false, e1_1, e1_15, e1_16, e1_17, e1_4, e1_22, e1_23, encPV] <;> rfl) ?_
     apply pops_or0 7 48 55 [49, 50, 51, 52, 53, 54] (by simp only [upd_at, Nat.reduceEqDiff, if_true, if_false, e1_1, e1_15, e1_16, e1_17, e1_4, e1_22, e1_23, encPV] <;> rfl)
     ·skip
      intro g48_0 J27 hJ27
      simp only [List.take_succ_cons, List.take_zero]
      simp only [anyAt_cons, anyAt_nil] at hJ27
      refine pops_mvg (.inl rfl) rfl rfl (by simp only [upd_at, Nat.reduceEqDiff, if_true, if_false, e1_1, e1_15, e1_16, e1_17, e1_4, e1_22, e1_23, encPV, g48_0]) (by simp only [St.eval, upd_at, Nat.reduceEqDiff, if_true, if_false, e1_1, e1_15, e1_16, e1_17, e1_4, e1_22, e1_23, encPV, g48_0] <;> rfl) ?_
      refine pops_do rfl rfl (by simp only [upd_at, Nat.reduceEqDiff, if_true, if_false, e1_1, e1_15, e1_16, e1_17, e1_4, e1_22, e1_23, encPV, g48_0]) fun M hM => ?_
      simp only [pop, St.eval, constSlot, upd_at, Nat.reduceEqDiff, if_true, if_false, popBin, binK, intK, strK, eqK, Tryd.underlying5, isPtr, eq_self, true_and, and_true, e1_1, e1_15, e1_16, e1_17, e1_4, e1_22, e1_23, encPV, g48_0]
      refine hM _ _ ?_
      clear hM M
      refine pops_mvg (.inl rfl) rfl rfl (by simp only [upd_at, Nat.reduceEqDiff, if_true, if_false, e1_1, e1_15, e1_16, e1_17, e1_4, e1_22, e1_23, encPV, g48_0]) (by simp only [St.eval, upd_at, Nat.reduceEqDiff, if_true, if_false, e1_1, e1_15, e1_16, e1_17, e1_4, e1_22, e1_23, encPV, g48_0] <;> rfl) ?_
      apply pops_and0 3 51 54 [52, 53] (by simp only [upd_at, Nat.reduceEqDiff, if_true, if_false, e1_1, e1_15, e1_16, e1_17, e1_4, e1_22, e1_23, encPV, g48_0] <;> rfl)
      ·skip
       intro g51_1 J28 hJ28
       simp only [List.take_succ_cons, List.take_zero]
       simp only [anyAt_cons, anyAt_nil] at hJ28
       refine pops_do rfl rfl (by simp only [upd_at, Nat.reduceEqDiff, if_true, if_false, e1_1, e1_15, e1_16, e1_17, e1_4, e1_22, e1_23, encPV, g48_0, g51_1]) fun M hM => ?_
       simp only [pop, St.eval, constSlot, upd_at, Nat.reduceEqDiff, if_true, if_false, popFieldAddr, fieldOf, List.drop_succ_cons, List.drop_zero, List.getElem?_toArray, List.getElem?_cons_zero, List.getElem?_cons_succ, Tryd.underlying64, sz4, e1_1, e1_15, e1_16, e1_17, e1_4, e1_22, e1_23, encPV, g48_0, g51_1]
       refine ⟨⟨_, rfl⟩, hM _ _ ?_⟩
       clear hM M
       refine pops_do rfl rfl (by simp only [upd_at, Nat.reduceEqDiff, if_true, if_false, e1_1, e1_15, e1_16, e1_17, e1_4, e1_22, e1_23, encPV, g48_0, g51_1]) fun M hM => ?_
       simp only [pop, St.eval, constSlot, upd_at, Nat.reduceEqDiff, if_true, if_false, popLoad, loadK, isAggD, List.drop_zero, List.getElem?_toArray, List.getElem?_cons_zero, List.getElem?_cons_succ, Bool.false_eq_true, Tryd.underlying4, sz4, eq_self, true_and, and_true, e1_1, e1_15, e1_16, e1_17, e1_4, e1_22, e1_23, encPV, g48_0, g51_1]
       refine hM _ _ ?_
       clear hM M
       refine pops_do rfl rfl (by simp only [upd_at, Nat.reduceEqDiff, if_true, if_false, e1_1, e1_15, e1_16, e1_17, e1_4, e1_22, e1_23, encPV, g48_0, g51_1]) fun M hM => ?_
       simp only [pop, St.eval, constSlot, upd_at, Nat.reduceEqDiff, if_true, if_false, popIf, true_implies, false_implies, Bool.true_eq_false, Bool.false_eq_true, reduceCtorEq, true_and, and_true, e1_1, e1_15, e1_16, e1_17, e1_4, e1_22, e1_23, encPV, g48_0, g51_1]
       refine hM _ _ ?_
       clear hM M
       exact pops_done (hJ28 _ (wk_same (wk_any ((wk_any (Wk.refl _ _))))))
      ·skip
       intro g51_1 J28 hJ28
       simp only [List.take_succ_cons, List.take_zero]
       simp only [anyAt_cons, anyAt_nil] at hJ28
       refine pops_off (b := false) rfl rfl (by simp only [upd_at, Nat.reduceEqDiff, if_true, if_false, e1_1, e1_15, e1_16, e1_17, e1_4, e1_22, e1_23, encPV, g48_0, g51_1]) (by decide) ?_
       refine pops_off (b := false) rfl rfl (by simp only [upd_at, Nat.reduceEqDiff, if_true, if_false, e1_1, e1_15, e1_16, e1_17, e1_4, e1_22, e1_23, encPV, g48_0, g51_1]) (by decide) ?_
       refine pops_do rfl rfl (by simp only [upd_at, Nat.reduceEqDiff, if_true, if_false, e1_1, e1_15, e1_16, e1_17, e1_4, e1_22, e1_23, encPV, g48_0, g51_1]) fun M hM => ?_
       simp only [pop, St.eval, constSlot, upd_at, Nat.reduceEqDiff, if_true, if_false, popIf, true_implies, false_implies, Bool.true_eq_false, Bool.false_eq_true, reduceCtorEq, true_and, and_true, e1_1, e1_15, e1_16, e1_17, e1_4, e1_22, e1_23, encPV, g48_0, g51_1]
       refine hM _ _ ?_
       clear hM M
       exact pops_done (hJ28 _ (wk_same (wk_any ((wk_any (Wk.refl _ _))))))
      simp only [List.drop_succ_cons, List.drop_zero, anyAt_cons, anyAt_nil]
      refine pops_to rfl fun M hM => ?_
      simp only [pop, St.eval, constSlot, upd_at, Nat.reduceEqDiff, if_true, if_false, popIf, true_implies, false_implies, Bool.true_eq_false, Bool.false_eq_true, reduceCtorEq, true_and, and_true, e1_1, e1_15, e1_16, e1_17, e1_4, e1_22, e1_23, encPV, g48_0]
      refine hM _ _ ?_
      clear hM M
      exact pops_done (hJ27 _ (wk_same (wk_any ((wk_any ((wk_any ((wk_any ((wk_any ((wk_any (Wk.refl _ _))))))))))))))
     ·skip
      intro g48_0 J27 hJ27
      simp only [List.take_succ_cons, List.take_zero]
      simp only [anyAt_cons, anyAt_nil] at hJ27
      refine pops_off (b := true) rfl rfl (by simp only [upd_at, Nat.reduceEqDiff, if_true, if_false, e1_1, e1_15, e1_16, e1_17, e1_4, e1_22, e1_23, encPV, g48_0]) (by decide) ?_
      refine pops_off (b := true) rfl rfl (by simp only [upd_at, Nat.reduceEqDiff, if_true, if_false, e1_1, e1_15, e1_16, e1_17, e1_4, e1_22, e1_23, encPV, g48_0]) (by decide) ?_
      refine pops_off (b := true) rfl rfl (by simp only [upd_at, Nat.reduceEqDiff, if_true, if_false, e1_1, e1_15, e1_16, e1_17, e1_4, e1_22, e1_23, encPV, g48_0]) (by decide) ?_
      refine pops_off0 rfl rfl (by simp only [upd_at, Nat.reduceEqDiff, if_true, if_false, e1_1, e1_15, e1_16, e1_17, e1_4, e1_22, e1_23, encPV, g48_0]) ?_
      refine pops_off0 rfl rfl (by simp only [upd_at, Nat.reduceEqDiff, if_true, if_false, e1_1, e1_15, e1_16, e1_17, e1_4, e1_22, e1_23, encPV, g48_0]) ?_
      refine pops_off (b := true) rfl rfl (by simp only [upd_at, Nat.reduceEqDiff, if_true, if_false, e1_1, e1_15, e1_16, e1_17, e1_4, e1_22, e1_23, encPV, g48_0]) (by decide) ?_
      refine pops_to rfl fun M hM => ?_
      simp only [pop, St.eval, constSlot, upd_at, Nat.reduceEqDiff, if_true, if_false, popIf, true_implies, false_implies, Bool.true_eq_false, Bool.false_eq_true, reduceCtorEq, true_and, and_true, e1_1, e1_15, e1_16, e1_17, e1_4, e1_22, e1_23, encPV, g48_0]
      refine hM _ _ ?_
      clear hM M
      exact pops_done (hJ27 _ (wk_same (wk_any ((wk_any ((wk_any ((wk_any ((wk_any ((wk_any (Wk.refl _ _))))))))))))))
     simp only [List.drop_succ_cons, List.drop_zero, anyAt_cons, anyAt_nil]
     refine pops_done (hR23 _ ?_)
     clear hR23 R23
     try simp only [thenK, scopeK]
     refine hN22 _ ?_
     clear hN22 N22
     refine pwp_cond (by simp only [St.eval, upd_at, Nat.reduceEqDiff, if_true, if_false, e1_1, e1_15, e1_16, e1_17, e1_4, e1_22, e1_23, encPV] <;> rfl) (fun c55 => ?_) (fun c55 => ?_)
     ·skip
      rw [ix_dec, u8_37, u8_47, u8_94, bad_ref] at c55
      have he := enc6 hs (formB_bad2 hx c55)
      refine pwp_then fun N29 hN29 => ?_
      refine pwp_reg fun R30 hR30 => ?_
      refine pops_mv (.inr rfl) rfl (by simp only [St.eval, constSlot] <;> rfl) ?_
      refine pops_done (hR30 _ ?_)
      clear hR30 R30
      try simp only [thenK, scopeK]
      refine hN29 _ ?_
      clear hN29 N29
      refine pwp_ret ?_
      simp only [thenK, blockK, scopeK, bodyK]
      clear hN17 N17 hN9 N9 hN3 N3
      refine ⟨_, rfl, endFun sj24 ?_⟩
      try simp only [upd_at, Nat.reduceEqDiff, if_true, if_false, e1_1, e1_15, e1_16, e1_17, e1_4, e1_22, e1_23, encPV]
      all_goals
       rw [he]
     ·skip
      rw [ix_dec, u8_37, u8_47, u8_94, bad_ref] at c55
      refine pwp_skip ?_
      try simp only [blockK, thenK, scopeK]
      try simp only [thenK, scopeK]
      refine hN17 _ ?_
      clear hN17 N17
      refine pwp_reg fun R31 hR31 => ?_
      refine pops_to rfl fun M hM => ?_
      simp only [pop, St.eval, constSlot, upd_at, Nat.reduceEqDiff, if_true, if_false, popBin, binK, intK, strK, eqK, eq_self, true_and, and_true, e1_1, e1_15, e1_16, e1_17, e1_4, e1_22, e1_23, encPV]
      refine hM _ _ ?_
      clear hM M
      refine pops_mv (.inl rfl) rfl (by simp only [St.eval, upd_at, Nat.reduceEqDiff, if_true, if_false, e1_1, e1_15, e1_16, e1_17, e1_4, e1_22, e1_23, encPV] <;> rfl) ?_
      refine pops_done (hR31 _ ?_)
      clear hR31 R31
      try simp only [thenK, scopeK]
      exact ⟨_, by omega, _, .refl _ _, j + 1, rfl, by omega, pre_step hx hx1_1 (by simpa using c55), sj24, by simp only [upd_at, Nat.reduceEqDiff, if_true, if_false, e1_1, e1_15, e1_16, e1_17, e1_4, e1_22, e1_23, encPV], by simp only [upd_at, Nat.reduceEqDiff, if_true, if_false, e1_1, e1_15, e1_16, e1_17, e1_4, e1_22, e1_23, encPV], by simp only [upd_at, Nat.reduceEqDiff, if_true, if_false, e1_1, e1_15, e1_16, e1_17, e1_4, e1_22, e1_23, encPV], by simp only [upd_at, Nat.reduceEqDiff, if_true, if_false, e1_1, e1_15, e1_16, e1_17, e1_4, e1_22, e1_23, encPV], by simp only [upd_at, Nat.reduceEqDiff, if_true, if_false, e1_1, e1_15, e1_16, e1_17, e1_4, e1_22, e1_23, encPV], by simp only [upd_at, Nat.reduceEqDiff, if_true, if_false, e1_1, e1_15, e1_16, e1_17, e1_4, e1_22, e1_23, encPV], by simp only [upd_at, Nat.reduceEqDiff, if_true, if_false, e1_23]; rw [wrap_succ (by omega)]⟩
    ·skip
     have hj := of_decide_eq_false c24
     have hfs : formB x.kase s = true := formB_good2 fun m hm c hc => hx1_1 m (by omega) c hc
     refine pwp_exit ?_
     try simp only [thenK, blockK, scopeK, if_true, Nat.reduceEqDiff, if_false]
     clear hN16 N16
     try simp only [blockK, scopeK, if_true, Nat.reduceEqDiff, if_false, thenK]
     try simp only [blockK, thenK, scopeK]
     try simp only [thenK, scopeK]
     refine hN9 _ ?_
     clear hN9 N9
     refine pwp_reg fun R32 hR32 => ?_
     refine pops_to rfl fun M hM => ?_
     simp only [pop, St.eval, constSlot, upd_at, Nat.reduceEqDiff, if_true, if_false, popBin, binK, intK, strK, eqK, eq_self, true_and, and_true, e1_1, e1_15, e1_16, e1_17, e1_4, e1_22, e1_23, encPV]
     refine hM _ _ ?_
     clear hM M
     refine pops_mv (.inl rfl) rfl (by simp only [St.eval, upd_at, Nat.reduceEqDiff, if_true, if_false, e1_1, e1_15, e1_16, e1_17, e1_4, e1_22, e1_23, encPV] <;> rfl) ?_
     refine pops_done (hR32 _ ?_)
     clear hR32 R32
     try simp only [thenK, scopeK]
     exact ⟨_, by omega, _, .refl _ _, i + 1, rfl, by omega, all_step hs hx0_1 hfs, sl1, by simp only [upd_at, Nat.reduceEqDiff, if_true, if_false, e1_1, e1_15, e1_16, e1_17, e1_4, e1_22, e1_23, encPV], by simp only [upd_at, Nat.reduceEqDiff, if_true, if_false, e1_1, e1_15, e1_16, e1_17, e1_4, e1_22, e1_23, encPV], by simp only [upd_at, Nat.reduceEqDiff, if_true, if_false, e1_1, e1_15, e1_16, e1_17, e1_4, e1_22, e1_23, encPV], by simp only [upd_at, Nat.reduceEqDiff, if_true, if_false, e1_17]; rw [wrap_succ (by omega)]⟩
  ·skip
   have hi := of_decide_eq_false c18
   have he := enc_ok6 hi hx0_1
   refine pwp_exit ?_
   try simp only [thenK, blockK, scopeK, if_true, Nat.reduceEqDiff, if_false]
   clear hN8 N8
   try simp only [blockK, scopeK, if_true, Nat.reduceEqDiff, if_false, thenK]
   try simp only [thenK, scopeK]
   refine hN3 _ ?_
   clear hN3 N3
   refine pwp_then fun N33 hN33 => ?_
   refine pwp_then fun N34 hN34 => ?_
   refine pwp_reg fun R35 hR35 => ?_
   refine pops_to rfl fun M hM => ?_
   simp only [pop, St.eval, constSlot, upd_at, Nat.reduceEqDiff, if_true, if_false, popFieldAddr, fieldOf, List.drop_succ_cons, List.drop_zero, List.getElem?_toArray, List.getElem?_cons_zero, List.getElem?_cons_succ, Tryd.underlying64, sz49, e0_1, e0_15, e0_16, e0_17, encPV]
   refine ⟨⟨_, rfl⟩, hM _ _ ?_⟩
   clear hM M
   refine pops_to rfl fun M hM => ?_
   simp only [pop, St.eval, constSlot, upd_at, Nat.reduceEqDiff, if_true, if_false, popLoad, loadK, isAggD, List.drop_zero, List.getElem?_toArray, List.getElem?_cons_zero, List.getElem?_cons_succ, Bool.false_eq_true, Tryd.underlying49, sz49, eq_self, true_and, and_true, e0_1, e0_15, e0_16, e0_17, encPV]
   refine hM _ _ ?_
   clear hM M
   refine pops_to rfl fun M hM => ?_
   simp only [pop, St.eval, constSlot, upd_at, Nat.reduceEqDiff, if_true, if_false, popCall, List.toList_toArray, List.map_cons, List.map_nil, popBuiltin, popLen, lenOfSlot, List.length_map, Tryd.underlying49, eq_self, true_and, and_true, str_list, str_size, str_app, str_cut, str_get, e0_1, e0_15, e0_16, e0_17, encPV]
   refine hM _ _ ?_
   clear hM M
   refine pops_mv (.inl rfl) rfl (by simp only [St.eval, constSlot] <;> rfl) ?_
   refine pops_done (hR35 _ ?_)
   clear hR35 R35
   try simp only [thenK, scopeK]
   refine hN34 _ ?_
   clear hN34 N34
   refine pwp_block ?_
   refine pwp_loop (fun k σ => ∃ (i : Nat), (k = x.names.length - i) ∧ (i ≤ x.names.length) ∧ (namesE (prevAt x.names i) (x.names.drop i) = namesE none x.names) ∧ (Same h σ.hp) ∧ (σ.env 1 = .sv (.one (.rop (encPV x)))) ∧ (σ.env 59 = .sv (.one (.ro false 1 (pstrs x.names)))) ∧ (σ.env 60 = .sv (.one (pint (x.names.length : Nat)))) ∧ (σ.env 61 = .sv (.one (pint (i : Nat))))) _ ⟨_, .refl _ _, 0, rfl, ?_⟩ ?_
   · exact ⟨Nat.zero_le _, rfl, sl0, by simp only [upd_at, Nat.reduceEqDiff, if_true, if_false, e0_1, e0_15, e0_16, e0_17, encPV], by simp only [upd_at, Nat.reduceEqDiff, if_true, if_false, e0_1, e0_15, e0_16, e0_17, encPV], by simp only [upd_at, Nat.reduceEqDiff, if_true, if_false, e0_1, e0_15, e0_16, e0_17, encPV], by simp only [upd_at, Nat.reduceEqDiff, if_true, if_false]; rfl⟩
   ·rintro k ⟨e, hp2⟩ ⟨i, hk2, hx2_0, hx2_1, sl2, e2_1, e2_59, e2_60, e2_61⟩
    simp only at sl2 e2_1 e2_59 e2_60 e2_61
    refine pwp_then fun N36 hN36 => ?_
    refine pwp_reg fun R37 hR37 => ?_
    refine pops_to rfl fun M hM => ?_
    simp only [pop, St.eval, constSlot, upd_at, Nat.reduceEqDiff, if_true, if_false, popBin, binK, intK, strK, eqK, eq_self, true_and, and_true, e2_1, e2_59, e2_60, e2_61, encPV]
    refine hM _ _ ?_
    clear hM M
    refine pops_done (hR37 _ ?_)
    clear hR37 R37
    try simp only [thenK, scopeK]
    refine hN36 _ ?_
    clear hN36 N36
    refine pwp_then fun N38 hN38 => ?_
    refine pwp_cond (by simp only [St.eval, upd_at, Nat.reduceEqDiff, if_true, if_false, e2_1, e2_59, e2_60, e2_61, encPV] <;> rfl) (fun c62 => ?_) (fun c62 => ?_)
    ·skip
     have hi : i < x.names.length := by have := of_decide_eq_true c62; omega
     obtain ⟨n, hn⟩ : ∃ n, x.names[i]? = some n := ⟨_, List.getElem?_eq_getElem hi⟩
     have hget : (pstrs x.names)[i]? = some [pstr n] := by simp only [List.getElem?_map, hn, Option.map_some]
     refine pwp_skip ?_
     try simp only [thenK, scopeK]
     refine hN38 _ ?_
     clear hN38 N38
     refine pwp_then fun N39 hN39 => ?_
     refine pwp_block ?_
     refine pwp_then fun N40 hN40 => ?_
     refine pwp_reg fun R41 hR41 => ?_
     refine pops_mv (.inl rfl) rfl (by simp only [St.eval, upd_at, Nat.reduceEqDiff, if_true, if_false, e2_1, e2_59, e2_60, e2_61, encPV, hget, Int.toNat_natCast] <;> rfl) ?_
     refine pops_to rfl fun M hM => ?_
     simp only [pop, St.eval, constSlot, upd_at, Nat.reduceEqDiff, if_true, if_false, popIndexAddr, Tryd.underlying49, sz9, eq_self, true_and, and_true, str_list, str_size, str_app, str_cut, str_get, e2_1, e2_59, e2_60, e2_61, encPV, hget, Int.toNat_natCast]
     refine ⟨Int.natCast_nonneg _, hM _ _ ?_⟩
     clear hM M
     refine pops_to rfl fun M hM => ?_
     simp only [pop, St.eval, constSlot, upd_at, Nat.reduceEqDiff, if_true, if_false, popLoad, loadK, isAggD, List.drop_zero, List.getElem?_toArray, List.getElem?_cons_zero, List.getElem?_cons_succ, Bool.false_eq_true, Tryd.underlying9, sz9, eq_self, true_and, and_true, e2_1, e2_59, e2_60, e2_61, encPV, hget, Int.toNat_natCast]
     refine hM _ _ ?_
     clear hM M
     refine pops_mv (.inr rfl) rfl (by simp only [St.eval, upd_at, Nat.reduceEqDiff, if_true, if_false, e2_1, e2_59, e2_60, e2_61, encPV, hget, Int.toNat_natCast] <;> rfl) ?_
     refine pops_mv (.inr rfl) rfl (by simp only [St.eval, upd_at, Nat.reduceEqDiff, if_true, if_false, e2_1, e2_59, e2_60, e2_61, encPV, hget, Int.toNat_natCast] <;> rfl) ?_
     refine pops_done (hR41 _ ?_)
     clear hR41 R41
     try simp only [thenK, scopeK]
     refine hN40 _ ?_
     clear hN40 N40
     refine pwp_then fun N42 hN42 => ?_
     refine pwp_then fun N43 hN43 => ?_
     refine pwp_reg fun R44 hR44 => ?_
     refine pops_mv (.inl rfl) rfl (by simp only [St.eval, upd_at, Nat.reduceEqDiff, if_true, if_false, e2_1, e2_59, e2_60, e2_61, encPV, hget, Int.toNat_natCast] <;> rfl) ?_
     refine pops_to rfl fun M hM => ?_
     simp only [pop, St.eval, constSlot, upd_at, Nat.reduceEqDiff, if_true, if_false, popCall, List.toList_toArray, List.map_cons, List.map_nil, svs, List.mapM_cons, List.mapM_nil, Option.bind_eq_bind, Option.bind_some, Option.pure_def, List.append_nil, List.cons_append, List.nil_append, str_size, e2_1, e2_59, e2_60, e2_61, encPV, hget, Int.toNat_natCast]
     refine PFun.use (isNameRef_fun W0 n) fun h3 s3 => hM _ _ ?_
     replace s3 := Same.trans sl2 s3
     clear hM M
     refine pops_to rfl fun M hM => ?_
     simp only [pop, St.eval, constSlot, upd_at, Nat.reduceEqDiff, if_true, if_false, unK, e2_1, e2_59, e2_60, e2_61, encPV, hget, Int.toNat_natCast]
     refine hM _ _ ?_
     clear hM M
     refine pops_mv (.inl rfl) rfl (by simp only [St.eval, upd_at, Nat.reduceEqDiff, if_true, if_false, e2_1, e2_59, e2_60, e2_61, encPV, hget, Int.toNat_natCast] <;> rfl) ?_
     apply pops_or 5 69 74 [70, 71, 72, 73] (by simp only [upd_at, Nat.reduceEqDiff, if_true, if_false, e2_1, e2_59, e2_60, e2_61, encPV, hget, Int.toNat_natCast] <;> rfl)
     ·skip
      intro g69_0 J45 hJ45
      simp only [List.take_succ_cons, List.take_zero]
      simp only [anyAt_cons, anyAt_nil] at hJ45
      have hnl2 := nameB_len g69_0
      refine pops_mvg (.inl rfl) rfl rfl (by simp only [upd_at, Nat.reduceEqDiff, if_true, if_false, e2_1, e2_59, e2_60, e2_61, encPV, hget, Int.toNat_natCast, g69_0]) (by simp only [St.eval, upd_at, Nat.reduceEqDiff, if_true, if_false, e2_1, e2_59, e2_60, e2_61, encPV, hget, Int.toNat_natCast, g69_0] <;> rfl) ?_
      refine pops_do rfl rfl (by simp only [upd_at, Nat.reduceEqDiff, if_true, if_false, e2_1, e2_59, e2_60, e2_61, encPV, hget, Int.toNat_natCast, g69_0]) fun M hM => ?_
      simp only [pop, St.eval, constSlot, upd_at, Nat.reduceEqDiff, if_true, if_false, popCall, List.toList_toArray, List.map_cons, List.map_nil, svs, List.mapM_cons, List.mapM_nil, Option.bind_eq_bind, Option.bind_some, Option.pure_def, List.append_nil, List.cons_append, List.nil_append, str_size, e2_1, e2_59, e2_60, e2_61, encPV, hget, Int.toNat_natCast, g69_0]
      refine PFun.use (lower_fun W0 n (by omega)) fun h4 s4 => hM _ _ ?_
      replace s4 := Same.trans (Same.refl _) s4
      clear hM M
      refine pops_mvg (.inl rfl) rfl rfl (by simp only [upd_at, Nat.reduceEqDiff, if_true, if_false, e2_1, e2_59, e2_60, e2_61, encPV, hget, Int.toNat_natCast, g69_0]) (by simp only [St.eval, upd_at, Nat.reduceEqDiff, if_true, if_false, e2_1, e2_59, e2_60, e2_61, encPV, hget, Int.toNat_natCast, g69_0] <;> rfl) ?_
      refine pops_do rfl rfl (by simp only [upd_at, Nat.reduceEqDiff, if_true, if_false, e2_1, e2_59, e2_60, e2_61, encPV, hget, Int.toNat_natCast, g69_0]) fun M hM => ?_
      simp only [pop, St.eval, constSlot, upd_at, Nat.reduceEqDiff, if_true, if_false, popBin, binK, intK, strK, eqK, Tryd.underlying9, isPtr, eq_self, true_and, and_true, str_list, str_size, str_app, str_cut, str_get, e2_1, e2_59, e2_60, e2_61, encPV, hget, Int.toNat_natCast, g69_0]
      refine hM _ _ ?_
      clear hM M
      refine pops_to rfl fun M hM => ?_
      simp only [pop, St.eval, constSlot, upd_at, Nat.reduceEqDiff, if_true, if_false, popIf, true_implies, false_implies, Bool.true_eq_false, Bool.false_eq_true, reduceCtorEq, true_and, and_true, e2_1, e2_59, e2_60, e2_61, encPV, hget, Int.toNat_natCast, g69_0]
      refine hM _ _ ?_
      clear hM M
      exact pops_done (hJ45 _ _ s4 (wk_same (wk_any ((wk_any ((wk_any ((wk_any (Wk.refl _ _))))))))))
     ·skip
      intro g69_0 J45 hJ45
      simp only [List.take_succ_cons, List.take_zero]
      simp only [anyAt_cons, anyAt_nil] at hJ45
      refine pops_off (b := true) rfl rfl (by simp only [upd_at, Nat.reduceEqDiff, if_true, if_false, e2_1, e2_59, e2_60, e2_61, encPV, hget, Int.toNat_natCast, g69_0]) (by decide) ?_
      refine pops_off (b := true) rfl rfl (by simp only [upd_at, Nat.reduceEqDiff, if_true, if_false, e2_1, e2_59, e2_60, e2_61, encPV, hget, Int.toNat_natCast, g69_0]) (by decide) ?_
      refine pops_off (b := true) rfl rfl (by simp only [upd_at, Nat.reduceEqDiff, if_true, if_false, e2_1, e2_59, e2_60, e2_61, encPV, hget, Int.toNat_natCast, g69_0]) (by decide) ?_
      refine pops_off (b := true) rfl rfl (by simp only [upd_at, Nat.reduceEqDiff, if_true, if_false, e2_1, e2_59, e2_60, e2_61, encPV, hget, Int.toNat_natCast, g69_0]) (by decide) ?_
      refine pops_to rfl fun M hM => ?_
      simp only [pop, St.eval, constSlot, upd_at, Nat.reduceEqDiff, if_true, if_false, popIf, true_implies, false_implies, Bool.true_eq_false, Bool.false_eq_true, reduceCtorEq, true_and, and_true, e2_1, e2_59, e2_60, e2_61, encPV, hget, Int.toNat_natCast, g69_0]
      refine hM _ _ ?_
      clear hM M
      exact pops_done (hJ45 _ _ (Same.refl _) (wk_same (wk_any ((wk_any ((wk_any ((wk_any (Wk.refl _ _))))))))))
     simp only [List.drop_succ_cons, List.drop_zero, anyAt_cons, anyAt_nil]
     intro hj45 sj45
     replace sj45 := Same.trans s3 sj45
     refine pops_mv (.inl rfl) rfl (by simp only [St.eval, upd_at, Nat.reduceEqDiff, if_true, if_false, e2_1, e2_59, e2_60, e2_61, encPV, hget, Int.toNat_natCast] <;> rfl) ?_
     apply pops_or 3 75 78 [76, 77] (by simp only [upd_at, Nat.reduceEqDiff, if_true, if_false, e2_1, e2_59, e2_60, e2_61, encPV, hget, Int.toNat_natCast] <;> rfl)
     ·skip
      intro g75_0 J46 hJ46
      simp only [List.take_succ_cons, List.take_zero]
      simp only [anyAt_cons, anyAt_nil] at hJ46
      have hnl2 := nameB_len2 g75_0
      refine pops_mvg (.inl rfl) rfl rfl (by simp only [upd_at, Nat.reduceEqDiff, if_true, if_false, e2_1, e2_59, e2_60, e2_61, encPV, hget, Int.toNat_natCast, g75_0]) (by simp only [St.eval, upd_at, Nat.reduceEqDiff, if_true, if_false, e2_1, e2_59, e2_60, e2_61, encPV, hget, Int.toNat_natCast, g75_0] <;> rfl) ?_
      refine pops_do rfl rfl (by simp only [upd_at, Nat.reduceEqDiff, if_true, if_false, e2_1, e2_59, e2_60, e2_61, encPV, hget, Int.toNat_natCast, g75_0]) fun M hM => ?_
      simp only [pop, St.eval, constSlot, upd_at, Nat.reduceEqDiff, if_true, if_false, popCall, List.toList_toArray, List.map_cons, List.map_nil, svs, List.mapM_cons, List.mapM_nil, Option.bind_eq_bind, Option.bind_some, Option.pure_def, List.append_nil, List.cons_append, List.nil_append, str_size, e2_1, e2_59, e2_60, e2_61, encPV, hget, Int.toNat_natCast, g75_0]
      refine PFun.use (containsAny_fun W0 n [37, 94] (by decide) (by decide) (by decide) (by omega)) fun h5 s5 => hM _ _ ?_
      replace s5 := Same.trans (Same.refl _) s5
      clear hM M
      refine pops_to rfl fun M hM => ?_
      simp only [pop, St.eval, constSlot, upd_at, Nat.reduceEqDiff, if_true, if_false, popIf, true_implies, false_implies, Bool.true_eq_false, Bool.false_eq_true, reduceCtorEq, true_and, and_true, e2_1, e2_59, e2_60, e2_61, encPV, hget, Int.toNat_natCast, g75_0]
      refine hM _ _ ?_
      clear hM M
      exact pops_done (hJ46 _ _ s5 (wk_same (wk_any ((wk_any (Wk.refl _ _))))))
     ·skip
      intro g75_0 J46 hJ46
      simp only [List.take_succ_cons, List.take_zero]
      simp only [anyAt_cons, anyAt_nil] at hJ46
      refine pops_off (b := true) rfl rfl (by simp only [upd_at, Nat.reduceEqDiff, if_true, if_false, e2_1, e2_59, e2_60, e2_61, encPV, hget, Int.toNat_natCast, g75_0]) (by decide) ?_
      refine pops_off (b := true) rfl rfl (by simp only [upd_at, Nat.reduceEqDiff, if_true, if_false, e2_1, e2_59, e2_60, e2_61, encPV, hget, Int.toNat_natCast, g75_0]) (by decide) ?_
      refine pops_to rfl fun M hM => ?_
      simp only [pop, St.eval, constSlot, upd_at, Nat.reduceEqDiff, if_true, if_false, popIf, true_implies, false_implies, Bool.true_eq_false, Bool.false_eq_true, reduceCtorEq, true_and, and_true, e2_1, e2_59, e2_60, e2_61, encPV, hget, Int.toNat_natCast, g75_0]
      refine hM _ _ ?_
      clear hM M
      exact pops_done (hJ46 _ _ (Same.refl _) (wk_same (wk_any ((wk_any (Wk.refl _ _))))))
     simp only [List.drop_succ_cons, List.drop_zero, anyAt_cons, anyAt_nil]
     intro hj46 sj46
     replace sj46 := Same.trans sj45 sj46
     refine pops_done (hR44 _ ?_)
     clear hR44 R44
     try simp only [thenK, scopeK]
     refine hN43 _ ?_
     clear hN43 N43
     refine pwp_cond (by simp only [St.eval, upd_at, Nat.reduceEqDiff, if_true, if_false, e2_1, e2_59, e2_60, e2_61, encPV, hget, Int.toNat_natCast] <;> rfl) (fun c78 => ?_) (fun c78 => ?_)
     ·skip
      have he2 := namesE_bad hn c78 hx2_1
      rw [he2] at he
      refine pwp_then fun N47 hN47 => ?_
      refine pwp_reg fun R48 hR48 => ?_
      refine pops_mv (.inr rfl) rfl (by simp only [St.eval, constSlot] <;> rfl) ?_
      refine pops_done (hR48 _ ?_)
      clear hR48 R48
      try simp only [thenK, scopeK]
      refine hN47 _ ?_
      clear hN47 N47
      refine pwp_ret ?_
      simp only [thenK, blockK, scopeK, bodyK]
      clear hN42 N42 hN39 N39 hN33 N33
      refine ⟨_, rfl, endFun sj46 ?_⟩
      try simp only [upd_at, Nat.reduceEqDiff, if_true, if_false, e2_1, e2_59, e2_60, e2_61, encPV, hget, Int.toNat_natCast]
      all_goals
       rw [he]
       simp
     ·skip
      have hnb : nameBad n = false := c78
      refine pwp_skip ?_
      try simp only [thenK, scopeK]
      refine hN42 _ ?_
      clear hN42 N42
      refine pwp_then fun N49 hN49 => ?_
      refine pwp_reg fun R50 hR50 => ?_
      refine pops_mv (.inl rfl) rfl (by simp only [St.eval, upd_at, Nat.reduceEqDiff, if_true, if_false, e2_1, e2_59, e2_60, e2_61, encPV, hget, Int.toNat_natCast] <;> rfl) ?_
      refine pops_to rfl fun M hM => ?_
      simp only [pop, St.eval, constSlot, upd_at, Nat.reduceEqDiff, if_true, if_false, popBin, binK, intK, strK, eqK, eq_self, true_and, and_true, e2_1, e2_59, e2_60, e2_61, encPV, hget, Int.toNat_natCast]
      refine hM _ _ ?_
      clear hM M
      refine pops_mv (.inl rfl) rfl (by simp only [St.eval, upd_at, Nat.reduceEqDiff, if_true, if_false, e2_1, e2_59, e2_60, e2_61, encPV, hget, Int.toNat_natCast] <;> rfl) ?_
      apply pops_and0 9 81 90 [82, 83, 84, 85, 86, 87, 88, 89] (by simp only [upd_at, Nat.reduceEqDiff, if_true, if_false, e2_1, e2_59, e2_60, e2_61, encPV, hget, Int.toNat_natCast] <;> rfl)
      ·skip
       intro g81_0 J51 hJ51
       simp only [List.take_succ_cons, List.take_zero]
       simp only [anyAt_cons, anyAt_nil] at hJ51
       have hi0 : 0 < i := by have := of_decide_eq_true g81_0; omega
       have hget2 : (pstrs x.names)[i - 1]? = some [pstr (x.names.getD (i - 1) [])] := by simp only [List.getElem?_map, getD_at (l := x.names) (j := i - 1) (by omega), Option.map_some]
       have hwp := wrap_pred (n := i) (by omega) (by omega)
       refine pops_do rfl rfl (by simp only [upd_at, Nat.reduceEqDiff, if_true, if_false, e2_1, e2_59, e2_60, e2_61, encPV, hget, Int.toNat_natCast, g81_0]) fun M hM => ?_
       simp only [pop, St.eval, constSlot, upd_at, Nat.reduceEqDiff, if_true, if_false, popFieldAddr, fieldOf, List.drop_succ_cons, List.drop_zero, List.getElem?_toArray, List.getElem?_cons_zero, List.getElem?_cons_succ, Tryd.underlying64, sz49, e2_1, e2_59, e2_60, e2_61, encPV, hget, Int.toNat_natCast, g81_0]
       refine ⟨⟨_, rfl⟩, hM _ _ ?_⟩
       clear hM M
       refine pops_do rfl rfl (by simp only [upd_at, Nat.reduceEqDiff, if_true, if_false, e2_1, e2_59, e2_60, e2_61, encPV, hget, Int.toNat_natCast, g81_0]) fun M hM => ?_
       simp only [pop, St.eval, constSlot, upd_at, Nat.reduceEqDiff, if_true, if_false, popLoad, loadK, isAggD, List.drop_zero, List.getElem?_toArray, List.getElem?_cons_zero, List.getElem?_cons_succ, Bool.false_eq_true, Tryd.underlying49, sz49, eq_self, true_and, and_true, e2_1, e2_59, e2_60, e2_61, encPV, hget, Int.toNat_natCast, g81_0]
       refine hM _ _ ?_
       clear hM M
       refine pops_mvg (.inl rfl) rfl rfl (by simp only [upd_at, Nat.reduceEqDiff, if_true, if_false, e2_1, e2_59, e2_60, e2_61, encPV, hget, Int.toNat_natCast, g81_0]) (by simp only [St.eval, upd_at, Nat.reduceEqDiff, if_true, if_false, e2_1, e2_59, e2_60, e2_61, encPV, hget, Int.toNat_natCast, g81_0] <;> rfl) ?_
       refine pops_do rfl rfl (by simp only [upd_at, Nat.reduceEqDiff, if_true, if_false, e2_1, e2_59, e2_60, e2_61, encPV, hget, Int.toNat_natCast, g81_0]) fun M hM => ?_
       simp only [pop, St.eval, constSlot, upd_at, Nat.reduceEqDiff, if_true, if_false, popBin, binK, intK, strK, eqK, eq_self, true_and, and_true, e2_1, e2_59, e2_60, e2_61, encPV, hget, Int.toNat_natCast, g81_0, hwp]
       refine hM _ _ ?_
       clear hM M
       refine pops_do rfl rfl (by simp only [upd_at, Nat.reduceEqDiff, if_true, if_false, e2_1, e2_59, e2_60, e2_61, encPV, hget, Int.toNat_natCast, g81_0]) fun M hM => ?_
       simp only [pop, St.eval, constSlot, upd_at, Nat.reduceEqDiff, if_true, if_false, popIndexAddr, Tryd.underlying49, sz9, eq_self, true_and, and_true, str_list, str_size, str_app, str_cut, str_get, e2_1, e2_59, e2_60, e2_61, encPV, hget, Int.toNat_natCast, g81_0, hget2, Int.toNat_natCast]
       refine ⟨Int.natCast_nonneg _, hM _ _ ?_⟩
       clear hM M
       refine pops_do rfl rfl (by simp only [upd_at, Nat.reduceEqDiff, if_true, if_false, e2_1, e2_59, e2_60, e2_61, encPV, hget, Int.toNat_natCast, g81_0]) fun M hM => ?_
       simp only [pop, St.eval, constSlot, upd_at, Nat.reduceEqDiff, if_true, if_false, popLoad, loadK, isAggD, List.drop_zero, List.getElem?_toArray, List.getElem?_cons_zero, List.getElem?_cons_succ, Bool.false_eq_true, Tryd.underlying9, sz9, eq_self, true_and, and_true, e2_1, e2_59, e2_60, e2_61, encPV, hget, Int.toNat_natCast, g81_0]
       refine hM _ _ ?_
       clear hM M
       refine pops_mvg (.inl rfl) rfl rfl (by simp only [upd_at, Nat.reduceEqDiff, if_true, if_false, e2_1, e2_59, e2_60, e2_61, encPV, hget, Int.toNat_natCast, g81_0]) (by simp only [St.eval, upd_at, Nat.reduceEqDiff, if_true, if_false, e2_1, e2_59, e2_60, e2_61, encPV, hget, Int.toNat_natCast, g81_0] <;> rfl) ?_
       refine pops_do rfl rfl (by simp only [upd_at, Nat.reduceEqDiff, if_true, if_false, e2_1, e2_59, e2_60, e2_61, encPV, hget, Int.toNat_natCast, g81_0]) fun M hM => ?_
       simp only [pop, St.eval, constSlot, upd_at, Nat.reduceEqDiff, if_true, if_false, popBin, binK, intK, strK, eqK, eq_self, true_and, and_true, str_list, str_size, str_app, str_cut, str_get, e2_1, e2_59, e2_60, e2_61, encPV, hget, Int.toNat_natCast, g81_0]
       refine hM _ _ ?_
       clear hM M
       refine pops_to rfl fun M hM => ?_
       simp only [pop, St.eval, constSlot, upd_at, Nat.reduceEqDiff, if_true, if_false, popIf, true_implies, false_implies, Bool.true_eq_false, Bool.false_eq_true, reduceCtorEq, true_and, and_true, e2_1, e2_59, e2_60, e2_61, encPV, hget, Int.toNat_natCast, g81_0]
       refine hM _ _ ?_
       clear hM M
       exact pops_done (hJ51 _ (wk_same (wk_any ((wk_any ((wk_any ((wk_any ((wk_any ((wk_any ((wk_any ((wk_any (Wk.refl _ _))))))))))))))))))
      ·skip
       intro g81_0 J51 hJ51
       simp only [List.take_succ_cons, List.take_zero]
       simp only [anyAt_cons, anyAt_nil] at hJ51
       refine pops_off (b := false) rfl rfl (by simp only [upd_at, Nat.reduceEqDiff, if_true, if_false, e2_1, e2_59, e2_60, e2_61, encPV, hget, Int.toNat_natCast, g81_0]) (by decide) ?_
       refine pops_off (b := false) rfl rfl (by simp only [upd_at, Nat.reduceEqDiff, if_true, if_false, e2_1, e2_59, e2_60, e2_61, encPV, hget, Int.toNat_natCast, g81_0]) (by decide) ?_
       refine pops_off (b := false) rfl rfl (by simp only [upd_at, Nat.reduceEqDiff, if_true, if_false, e2_1, e2_59, e2_60, e2_61, encPV, hget, Int.toNat_natCast, g81_0]) (by decide) ?_
       refine pops_off (b := false) rfl rfl (by simp only [upd_at, Nat.reduceEqDiff, if_true, if_false, e2_1, e2_59, e2_60, e2_61, encPV, hget, Int.toNat_natCast, g81_0]) (by decide) ?_
       refine pops_off (b := false) rfl rfl (by simp only [upd_at, Nat.reduceEqDiff, if_true, if_false, e2_1, e2_59, e2_60, e2_61, encPV, hget, Int.toNat_natCast, g81_0]) (by decide) ?_
       refine pops_off (b := false) rfl rfl (by simp only [upd_at, Nat.reduceEqDiff, if_true, if_false, e2_1, e2_59, e2_60, e2_61, encPV, hget, Int.toNat_natCast, g81_0]) (by decide) ?_
       refine pops_off (b := false) rfl rfl (by simp only [upd_at, Nat.reduceEqDiff, if_true, if_false, e2_1, e2_59, e2_60, e2_61, encPV, hget, Int.toNat_natCast, g81_0]) (by decide) ?_
       refine pops_off (b := false) rfl rfl (by simp only [upd_at, Nat.reduceEqDiff, if_true, if_false, e2_1, e2_59, e2_60, e2_61, encPV, hget, Int.toNat_natCast, g81_0]) (by decide) ?_
       refine pops_to rfl fun M hM => ?_
       simp only [pop, St.eval, constSlot, upd_at, Nat.reduceEqDiff, if_true, if_false, popIf, true_implies, false_implies, Bool.true_eq_false, Bool.false_eq_true, reduceCtorEq, true_and, and_true, e2_1, e2_59, e2_60, e2_61, encPV, hget, Int.toNat_natCast, g81_0]
       refine hM _ _ ?_
       clear hM M
       exact pops_done (hJ51 _ (wk_same (wk_any ((wk_any ((wk_any ((wk_any ((wk_any ((wk_any ((wk_any ((wk_any (Wk.refl _ _))))))))))))))))))
      simp only [List.drop_succ_cons, List.drop_zero, anyAt_cons, anyAt_nil]
      refine pops_done (hR50 _ ?_)
      clear hR50 R50
      try simp only [thenK, scopeK]
      refine hN49 _ ?_
      clear hN49 N49
      refine pwp_cond (by simp only [St.eval, upd_at, Nat.reduceEqDiff, if_true, if_false, e2_1, e2_59, e2_60, e2_61, encPV, hget, Int.toNat_natCast] <;> rfl) (fun c90 => ?_) (fun c90 => ?_)
      ·skip
       obtain hord := ord_t c90
       have he2 := namesE_order hn hnb hord.1 (getD_at (by omega)) hord.2 hx2_1
       rw [he2] at he
       refine pwp_then fun N52 hN52 => ?_
       refine pwp_reg fun R53 hR53 => ?_
       refine pops_mv (.inr rfl) rfl (by simp only [St.eval, constSlot] <;> rfl) ?_
       refine pops_done (hR53 _ ?_)
       clear hR53 R53
       try simp only [thenK, scopeK]
       refine hN52 _ ?_
       clear hN52 N52
       refine pwp_ret ?_
       simp only [thenK, blockK, scopeK, bodyK]
       clear hN39 N39 hN33 N33
       refine ⟨_, rfl, endFun sj46 ?_⟩
       try simp only [upd_at, Nat.reduceEqDiff, if_true, if_false, e2_1, e2_59, e2_60, e2_61, encPV, hget, Int.toNat_natCast]
       all_goals
        rw [he]
        simp
      ·skip
       obtain hord := ord_f c90
       refine pwp_skip ?_
       try simp only [blockK, thenK, scopeK]
       try simp only [thenK, scopeK]
       refine hN39 _ ?_
       clear hN39 N39
       refine pwp_reg fun R54 hR54 => ?_
       refine pops_to rfl fun M hM => ?_
       simp only [pop, St.eval, constSlot, upd_at, Nat.reduceEqDiff, if_true, if_false, popBin, binK, intK, strK, eqK, eq_self, true_and, and_true, e2_1, e2_59, e2_60, e2_61, encPV, hget, Int.toNat_natCast]
       refine hM _ _ ?_
       clear hM M
       refine pops_mv (.inl rfl) rfl (by simp only [St.eval, upd_at, Nat.reduceEqDiff, if_true, if_false, e2_1, e2_59, e2_60, e2_61, encPV, hget, Int.toNat_natCast] <;> rfl) ?_
       refine pops_done (hR54 _ ?_)
       clear hR54 R54
       try simp only [thenK, scopeK]
       exact ⟨_, by omega, _, .refl _ _, i + 1, rfl, by omega, namesE_step hn hnb hord hx2_1, sj46, by simp only [upd_at, Nat.reduceEqDiff, if_true, if_false, e2_1, e2_59, e2_60, e2_61, encPV, hget, Int.toNat_natCast], by simp only [upd_at, Nat.reduceEqDiff, if_true, if_false, e2_1, e2_59, e2_60, e2_61, encPV, hget, Int.toNat_natCast], by simp only [upd_at, Nat.reduceEqDiff, if_true, if_false, e2_1, e2_59, e2_60, e2_61, encPV, hget, Int.toNat_natCast], by simp only [upd_at, Nat.reduceEqDiff, if_true, if_false, e2_61]; rw [wrap_succ (by omega)]⟩
    ·skip
     have hi := of_decide_eq_false c62
     have hne := namesE_end hi hx2_1
     rw [hne] at he
     refine pwp_exit ?_
     try simp only [thenK, blockK, scopeK, if_true, Nat.reduceEqDiff, if_false]
     clear hN38 N38
     try simp only [blockK, scopeK, if_true, Nat.reduceEqDiff, if_false, thenK]
     try simp only [thenK, scopeK]
     refine hN33 _ ?_
     clear hN33 N33
     refine pwp_then fun N55 hN55 => ?_
     refine pwp_then fun N56 hN56 => ?_
     refine pwp_reg fun R57 hR57 => ?_
     refine pops_to rfl fun M hM => ?_
     simp only [pop, St.eval, constSlot, upd_at, Nat.reduceEqDiff, if_true, if_false, popFieldAddr, fieldOf, List.drop_succ_cons, List.drop_zero, List.getElem?_toArray, List.getElem?_cons_zero, List.getElem?_cons_succ, Tryd.underlying64, sz3, e2_1, e2_59, e2_60, e2_61, encPV]
     refine ⟨⟨_, rfl⟩, hM _ _ ?_⟩
     clear hM M
     refine pops_to rfl fun M hM => ?_
     simp only [pop, St.eval, constSlot, upd_at, Nat.reduceEqDiff, if_true, if_false, popLoad, loadK, isAggD, List.drop_zero, List.getElem?_toArray, List.getElem?_cons_zero, List.getElem?_cons_succ, Bool.false_eq_true, Tryd.underlying3, sz3, eq_self, true_and, and_true, e2_1, e2_59, e2_60, e2_61, encPV]
     refine hM _ _ ?_
     clear hM M
     refine pops_to rfl fun M hM => ?_
     simp only [pop, St.eval, constSlot, upd_at, Nat.reduceEqDiff, if_true, if_false, popBin, binK, intK, strK, eqK, eq_self, true_and, and_true, e2_1, e2_59, e2_60, e2_61, encPV]
     refine hM _ _ ?_
     clear hM M
     refine pops_mv (.inl rfl) rfl (by simp only [St.eval, upd_at, Nat.reduceEqDiff, if_true, if_false, e2_1, e2_59, e2_60, e2_61, encPV] <;> rfl) ?_
     apply pops_or0 4 95 99 [96, 97, 98] (by simp only [upd_at, Nat.reduceEqDiff, if_true, if_false, e2_1, e2_59, e2_60, e2_61, encPV] <;> rfl)
     ·skip
      intro g95_0 J58 hJ58
      simp only [List.take_succ_cons, List.take_zero]
      simp only [anyAt_cons, anyAt_nil] at hJ58
      refine pops_do rfl rfl (by simp only [upd_at, Nat.reduceEqDiff, if_true, if_false, e2_1, e2_59, e2_60, e2_61, encPV, g95_0]) fun M hM => ?_
      simp only [pop, St.eval, constSlot, upd_at, Nat.reduceEqDiff, if_true, if_false, popFieldAddr, fieldOf, List.drop_succ_cons, List.drop_zero, List.getElem?_toArray, List.getElem?_cons_zero, List.getElem?_cons_succ, Tryd.underlying64, sz3, e2_1, e2_59, e2_60, e2_61, encPV, g95_0]
      refine ⟨⟨_, rfl⟩, hM _ _ ?_⟩
      clear hM M
      refine pops_do rfl rfl (by simp only [upd_at, Nat.reduceEqDiff, if_true, if_false, e2_1, e2_59, e2_60, e2_61, encPV, g95_0]) fun M hM => ?_
      simp only [pop, St.eval, constSlot, upd_at, Nat.reduceEqDiff, if_true, if_false, popLoad, loadK, isAggD, List.drop_zero, List.getElem?_toArray, List.getElem?_cons_zero, List.getElem?_cons_succ, Bool.false_eq_true, Tryd.underlying3, sz3, eq_self, true_and, and_true, e2_1, e2_59, e2_60, e2_61, encPV, g95_0]
      refine hM _ _ ?_
      clear hM M
      refine pops_do rfl rfl (by simp only [upd_at, Nat.reduceEqDiff, if_true, if_false, e2_1, e2_59, e2_60, e2_61, encPV, g95_0]) fun M hM => ?_
      simp only [pop, St.eval, constSlot, upd_at, Nat.reduceEqDiff, if_true, if_false, popBin, binK, intK, strK, eqK, eq_self, true_and, and_true, e2_1, e2_59, e2_60, e2_61, encPV, g95_0]
      refine hM _ _ ?_
      clear hM M
      refine pops_to rfl fun M hM => ?_
      simp only [pop, St.eval, constSlot, upd_at, Nat.reduceEqDiff, if_true, if_false, popIf, true_implies, false_implies, Bool.true_eq_false, Bool.false_eq_true, reduceCtorEq, true_and, and_true, e2_1, e2_59, e2_60, e2_61, encPV, g95_0]
      refine hM _ _ ?_
      clear hM M
      exact pops_done (hJ58 _ (wk_same (wk_any ((wk_any ((wk_any (Wk.refl _ _))))))))
     ·skip
      intro g95_0 J58 hJ58
      simp only [List.take_succ_cons, List.take_zero]
      simp only [anyAt_cons, anyAt_nil] at hJ58
      refine pops_off (b := true) rfl rfl (by simp only [upd_at, Nat.reduceEqDiff, if_true, if_false, e2_1, e2_59, e2_60, e2_61, encPV, g95_0]) (by decide) ?_
      refine pops_off (b := true) rfl rfl (by simp only [upd_at, Nat.reduceEqDiff, if_true, if_false, e2_1, e2_59, e2_60, e2_61, encPV, g95_0]) (by decide) ?_
      refine pops_off (b := true) rfl rfl (by simp only [upd_at, Nat.reduceEqDiff, if_true, if_false, e2_1, e2_59, e2_60, e2_61, encPV, g95_0]) (by decide) ?_
      refine pops_to rfl fun M hM => ?_
      simp only [pop, St.eval, constSlot, upd_at, Nat.reduceEqDiff, if_true, if_false, popIf, true_implies, false_implies, Bool.true_eq_false, Bool.false_eq_true, reduceCtorEq, true_and, and_true, e2_1, e2_59, e2_60, e2_61, encPV, g95_0]
      refine hM _ _ ?_
      clear hM M
      exact pops_done (hJ58 _ (wk_same (wk_any ((wk_any ((wk_any (Wk.refl _ _))))))))
     simp only [List.drop_succ_cons, List.drop_zero, anyAt_cons, anyAt_nil]
     refine pops_done (hR57 _ ?_)
     clear hR57 R57
     try simp only [thenK, scopeK]
     refine hN56 _ ?_
     clear hN56 N56
     refine pwp_cond (by simp only [St.eval, upd_at, Nat.reduceEqDiff, if_true, if_false, e2_1, e2_59, e2_60, e2_61, encPV] <;> rfl) (fun c99 => ?_) (fun c99 => ?_)
     ·skip
      refine pwp_then fun N59 hN59 => ?_
      refine pwp_reg fun R60 hR60 => ?_
      refine pops_mv (.inr rfl) rfl (by simp only [St.eval, constSlot] <;> rfl) ?_
      refine pops_done (hR60 _ ?_)
      clear hR60 R60
      try simp only [thenK, scopeK]
      refine hN59 _ ?_
      clear hN59 N59
      refine pwp_ret ?_
      simp only [thenK, blockK, scopeK, bodyK]
      clear hN55 N55
      refine ⟨_, rfl, endFun sl2 ?_⟩
      try simp only [upd_at, Nat.reduceEqDiff, if_true, if_false, e2_1, e2_59, e2_60, e2_61, encPV]
      all_goals
       rw [range7] at c99
       rw [he, if_neg (by simp), if_pos (of_decide_eq_true c99)]
     ·skip
      refine pwp_skip ?_
      try simp only [thenK, scopeK]
      refine hN55 _ ?_
      clear hN55 N55
      refine pwp_then fun N61 hN61 => ?_
      refine pwp_reg fun R62 hR62 => ?_
      refine pops_mv (.inr rfl) rfl (by simp only [St.eval, constSlot] <;> rfl) ?_
      refine pops_done (hR62 _ ?_)
      clear hR62 R62
      try simp only [thenK, scopeK]
      refine hN61 _ ?_
      clear hN61 N61
      refine pwp_ret ?_
      simp only [thenK, blockK, scopeK, bodyK]
      refine ⟨_, rfl, endFun sl2 ?_⟩
      try simp only [upd_at, Nat.reduceEqDiff, if_true, if_false, e2_1, e2_59, e2_60, e2_61, encPV]
      all_goals
       rw [range7] at c99
       rw [he, if_neg (by simp), if_neg (of_decide_eq_false c99)]
end Go.Pw
