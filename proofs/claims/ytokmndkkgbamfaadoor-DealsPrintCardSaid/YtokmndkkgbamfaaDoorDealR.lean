import Derived.Test.YtokmndkkgbamfaaDoorDealD
namespace Go.Pw
open Go Go.RowKit Go.Proofs
set_option maxRecDepth 100000
set_option linter.unusedSimpArgs false
set_option linter.unusedVariables false

theorem pathB_ref (p : List UInt8) : ((p == []) || (!isPathB p)) = !pathB p := by unfold pathB; cases p == [] <;> simp
theorem max3 {a b c : Nat} : (decide ((if (c : Int) > (if (b : Int) > (a : Int) then (b : Int) else (a : Int)) then (c : Int) else (if (b : Int) > (a : Int) then (b : Int) else (a : Int))) > 5000)) = decide (a > 5000 ∨ b > 5000 ∨ c > 5000) := by
  rw [decide_eq_decide]
  split <;> split <;> omega
theorem nm5 : (Tryd.f5.name == "runtime.NumGoroutine") = false := by kernel_rfl
set_option maxHeartbeats 4000000 in
theorem checkDealRef_fun (W0 : World) (hm : HasMax W0) (d : DealG) :
  PFun Tryd.prog W0 5 [.agg (dealPV d)] (.sv (.one (pint (dealE d)))) := by
 intro h
 refine pcalls1 (n := 135) Tryd.func5 rfl nm5 rfl fun hb => ?_
 refine pwp_then fun N1 hN1 => ?_
 refine pwp_reg fun R2 hR2 => ?_
 refine pops_to rfl fun M hM => ?_
 simp only [pop, St.eval, constSlot, upd_at, Nat.reduceEqDiff, if_true, if_false, popBox, popBoxRo, slotCells, dealPV]
 refine .inr ⟨Nat.succ_pos _, hM _ _ ?_⟩
 clear hM M
 refine pops_mv (.inr rfl) rfl (by simp only [St.eval, constSlot] <;> rfl) ?_
 refine pops_done (hR2 _ ?_)
 clear hR2 R2
 try simp only [thenK, scopeK]
 refine hN1 _ ?_
 clear hN1 N1
 refine pwp_then fun N3 hN3 => ?_
 refine pwp_then fun N4 hN4 => ?_
 refine pwp_reg fun R5 hR5 => ?_
 refine pops_to rfl fun M hM => ?_
 simp only [pop, St.eval, constSlot, upd_at, Nat.reduceEqDiff, if_true, if_false, popFieldAddr, fieldOf, List.drop_succ_cons, List.drop_zero, List.getElem?_toArray, List.getElem?_cons_zero, List.getElem?_cons_succ, Tryd.underlying26, sz22, dealPV]
 refine ⟨⟨_, rfl⟩, hM _ _ ?_⟩
 clear hM M
 refine pops_to rfl fun M hM => ?_
 simp only [pop, St.eval, constSlot, upd_at, Nat.reduceEqDiff, if_true, if_false, popLoad, loadK, isAggD, List.drop_zero, List.getElem?_toArray, List.getElem?_cons_zero, List.getElem?_cons_succ, Bool.false_eq_true, Tryd.underlying22, sz22, eq_self, true_and, and_true, dealPV]
 refine hM _ _ ?_
 clear hM M
 refine pops_to rfl fun M hM => ?_
 simp only [pop, St.eval, constSlot, upd_at, Nat.reduceEqDiff, if_true, if_false, popCall, List.toList_toArray, List.map_cons, List.map_nil, popBuiltin, popLen, lenOfSlot, List.length_map, Tryd.underlying22, eq_self, true_and, and_true, str_list, str_size, str_app, str_cut, str_get, dealPV, List.length_map]
 refine hM _ _ ?_
 clear hM M
 refine pops_to rfl fun M hM => ?_
 simp only [pop, St.eval, constSlot, upd_at, Nat.reduceEqDiff, if_true, if_false, popBin, binK, intK, strK, eqK, eq_self, true_and, and_true, dealPV]
 refine hM _ _ ?_
 clear hM M
 refine pops_mv (.inl rfl) rfl (by simp only [St.eval, upd_at, Nat.reduceEqDiff, if_true, if_false, dealPV] <;> rfl) ?_
 apply pops_or0 12 12 24 [13, 14, 15, 16, 17, 18, 19, 20, 21, 22, 23] (by simp only [upd_at, Nat.reduceEqDiff, if_true, if_false, dealPV] <;> rfl)
 ·skip
  intro g12_0 J6 hJ6
  simp only [List.take_succ_cons, List.take_zero]
  simp only [anyAt_cons, anyAt_nil] at hJ6
  refine pops_do rfl rfl (by simp only [upd_at, Nat.reduceEqDiff, if_true, if_false, dealPV, g12_0]) fun M hM => ?_
  simp only [pop, St.eval, constSlot, upd_at, Nat.reduceEqDiff, if_true, if_false, popFieldAddr, fieldOf, List.drop_succ_cons, List.drop_zero, List.getElem?_toArray, List.getElem?_cons_zero, List.getElem?_cons_succ, Tryd.underlying26, sz23, dealPV, g12_0]
  refine ⟨⟨_, rfl⟩, hM _ _ ?_⟩
  clear hM M
  refine pops_do rfl rfl (by simp only [upd_at, Nat.reduceEqDiff, if_true, if_false, dealPV, g12_0]) fun M hM => ?_
  simp only [pop, St.eval, constSlot, upd_at, Nat.reduceEqDiff, if_true, if_false, popLoad, loadK, isAggD, List.drop_zero, List.getElem?_toArray, List.getElem?_cons_zero, List.getElem?_cons_succ, Bool.false_eq_true, Tryd.underlying23, sz23, eq_self, true_and, and_true, dealPV, g12_0]
  refine hM _ _ ?_
  clear hM M
  refine pops_do rfl rfl (by simp only [upd_at, Nat.reduceEqDiff, if_true, if_false, dealPV, g12_0]) fun M hM => ?_
  simp only [pop, St.eval, constSlot, upd_at, Nat.reduceEqDiff, if_true, if_false, popCall, List.toList_toArray, List.map_cons, List.map_nil, popBuiltin, popLen, lenOfSlot, List.length_map, Tryd.underlying23, eq_self, true_and, and_true, str_list, str_size, str_app, str_cut, str_get, dealPV, g12_0, List.length_map]
  refine hM _ _ ?_
  clear hM M
  refine pops_do rfl rfl (by simp only [upd_at, Nat.reduceEqDiff, if_true, if_false, dealPV, g12_0]) fun M hM => ?_
  simp only [pop, St.eval, constSlot, upd_at, Nat.reduceEqDiff, if_true, if_false, popFieldAddr, fieldOf, List.drop_succ_cons, List.drop_zero, List.getElem?_toArray, List.getElem?_cons_zero, List.getElem?_cons_succ, Tryd.underlying26, sz24, dealPV, g12_0]
  refine ⟨⟨_, rfl⟩, hM _ _ ?_⟩
  clear hM M
  refine pops_do rfl rfl (by simp only [upd_at, Nat.reduceEqDiff, if_true, if_false, dealPV, g12_0]) fun M hM => ?_
  simp only [pop, St.eval, constSlot, upd_at, Nat.reduceEqDiff, if_true, if_false, popLoad, loadK, isAggD, List.drop_zero, List.getElem?_toArray, List.getElem?_cons_zero, List.getElem?_cons_succ, Bool.false_eq_true, Tryd.underlying24, sz24, eq_self, true_and, and_true, dealPV, g12_0]
  refine hM _ _ ?_
  clear hM M
  refine pops_do rfl rfl (by simp only [upd_at, Nat.reduceEqDiff, if_true, if_false, dealPV, g12_0]) fun M hM => ?_
  simp only [pop, St.eval, constSlot, upd_at, Nat.reduceEqDiff, if_true, if_false, popCall, List.toList_toArray, List.map_cons, List.map_nil, popBuiltin, popLen, lenOfSlot, List.length_map, Tryd.underlying24, eq_self, true_and, and_true, str_list, str_size, str_app, str_cut, str_get, dealPV, g12_0, pstrs_len]
  refine hM _ _ ?_
  clear hM M
  refine pops_do rfl rfl (by simp only [upd_at, Nat.reduceEqDiff, if_true, if_false, dealPV, g12_0]) fun M hM => ?_
  simp only [pop, St.eval, constSlot, upd_at, Nat.reduceEqDiff, if_true, if_false, popFieldAddr, fieldOf, List.drop_succ_cons, List.drop_zero, List.getElem?_toArray, List.getElem?_cons_zero, List.getElem?_cons_succ, Tryd.underlying26, sz24, dealPV, g12_0]
  refine ⟨⟨_, rfl⟩, hM _ _ ?_⟩
  clear hM M
  refine pops_do rfl rfl (by simp only [upd_at, Nat.reduceEqDiff, if_true, if_false, dealPV, g12_0]) fun M hM => ?_
  simp only [pop, St.eval, constSlot, upd_at, Nat.reduceEqDiff, if_true, if_false, popLoad, loadK, isAggD, List.drop_zero, List.getElem?_toArray, List.getElem?_cons_zero, List.getElem?_cons_succ, Bool.false_eq_true, Tryd.underlying24, sz24, eq_self, true_and, and_true, dealPV, g12_0]
  refine hM _ _ ?_
  clear hM M
  refine pops_do rfl rfl (by simp only [upd_at, Nat.reduceEqDiff, if_true, if_false, dealPV, g12_0]) fun M hM => ?_
  simp only [pop, St.eval, constSlot, upd_at, Nat.reduceEqDiff, if_true, if_false, popCall, List.toList_toArray, List.map_cons, List.map_nil, popBuiltin, popLen, lenOfSlot, List.length_map, Tryd.underlying24, eq_self, true_and, and_true, str_list, str_size, str_app, str_cut, str_get, dealPV, g12_0, pstrs_len]
  refine hM _ _ ?_
  clear hM M
  refine pops_do rfl rfl (by simp only [upd_at, Nat.reduceEqDiff, if_true, if_false, dealPV, g12_0]) fun M hM => ?_
  simp only [pop, St.eval, constSlot, upd_at, Nat.reduceEqDiff, if_true, if_false, popCall, List.toList_toArray, List.map_cons, List.map_nil, popBuiltin, eq_self, true_and, and_true, str_list, str_size, str_app, str_cut, str_get, dealPV, g12_0]
  refine hM _ _ ?_
  clear hM M
  refine pops_do rfl rfl (by simp only [upd_at, Nat.reduceEqDiff, if_true, if_false, dealPV, g12_0]) fun M hM => ?_
  simp only [pop, St.eval, constSlot, upd_at, Nat.reduceEqDiff, if_true, if_false, popBin, binK, intK, strK, eqK, eq_self, true_and, and_true, dealPV, g12_0]
  refine hM _ _ ?_
  clear hM M
  refine pops_to rfl fun M hM => ?_
  simp only [pop, St.eval, constSlot, upd_at, Nat.reduceEqDiff, if_true, if_false, popIf, true_implies, false_implies, Bool.true_eq_false, Bool.false_eq_true, reduceCtorEq, true_and, and_true, dealPV, g12_0]
  refine hM _ _ ?_
  clear hM M
  exact pops_done (hJ6 _ (wk_same (wk_any ((wk_any ((wk_any ((wk_any ((wk_any ((wk_any ((wk_any ((wk_any ((wk_any ((wk_any ((wk_any (Wk.refl _ _))))))))))))))))))))))))
 ·skip
  intro g12_0 J6 hJ6
  simp only [List.take_succ_cons, List.take_zero]
  simp only [anyAt_cons, anyAt_nil] at hJ6
  refine pops_off (b := true) rfl rfl (by simp only [upd_at, Nat.reduceEqDiff, if_true, if_false, dealPV, g12_0]) (by decide) ?_
  refine pops_off (b := true) rfl rfl (by simp only [upd_at, Nat.reduceEqDiff, if_true, if_false, dealPV, g12_0]) (by decide) ?_
  refine pops_off (b := true) rfl rfl (by simp only [upd_at, Nat.reduceEqDiff, if_true, if_false, dealPV, g12_0]) (by decide) ?_
  refine pops_off (b := true) rfl rfl (by simp only [upd_at, Nat.reduceEqDiff, if_true, if_false, dealPV, g12_0]) (by decide) ?_
  refine pops_off (b := true) rfl rfl (by simp only [upd_at, Nat.reduceEqDiff, if_true, if_false, dealPV, g12_0]) (by decide) ?_
  refine pops_off (b := true) rfl rfl (by simp only [upd_at, Nat.reduceEqDiff, if_true, if_false, dealPV, g12_0]) (by decide) ?_
  refine pops_off (b := true) rfl rfl (by simp only [upd_at, Nat.reduceEqDiff, if_true, if_false, dealPV, g12_0]) (by decide) ?_
  refine pops_off (b := true) rfl rfl (by simp only [upd_at, Nat.reduceEqDiff, if_true, if_false, dealPV, g12_0]) (by decide) ?_
  refine pops_off (b := true) rfl rfl (by simp only [upd_at, Nat.reduceEqDiff, if_true, if_false, dealPV, g12_0]) (by decide) ?_
  refine pops_off (b := true) rfl rfl (by simp only [upd_at, Nat.reduceEqDiff, if_true, if_false, dealPV, g12_0]) (by decide) ?_
  refine pops_off (b := true) rfl rfl (by simp only [upd_at, Nat.reduceEqDiff, if_true, if_false, dealPV, g12_0]) (by decide) ?_
  refine pops_to rfl fun M hM => ?_
  simp only [pop, St.eval, constSlot, upd_at, Nat.reduceEqDiff, if_true, if_false, popIf, true_implies, false_implies, Bool.true_eq_false, Bool.false_eq_true, reduceCtorEq, true_and, and_true, dealPV, g12_0]
  refine hM _ _ ?_
  clear hM M
  exact pops_done (hJ6 _ (wk_same (wk_any ((wk_any ((wk_any ((wk_any ((wk_any ((wk_any ((wk_any ((wk_any ((wk_any ((wk_any ((wk_any (Wk.refl _ _))))))))))))))))))))))))
 simp only [List.drop_succ_cons, List.drop_zero, anyAt_cons, anyAt_nil]
 refine pops_done (hR5 _ ?_)
 clear hR5 R5
 try simp only [thenK, scopeK]
 refine hN4 _ ?_
 clear hN4 N4
 refine pwp_cond (by simp only [St.eval, upd_at, Nat.reduceEqDiff, if_true, if_false, dealPV] <;> rfl) (fun c24 => ?_) (fun c24 => ?_)
 ·skip
  rw [max3] at c24
  have hbig : d.acts.length > 20000 ∨ d.refs.length > 5000 ∨ d.eqs.length > 5000 ∨ d.cons.length > 5000 := by simp only [Bool.or_eq_true, decide_eq_true_eq] at c24; omega
  refine pwp_then fun N7 hN7 => ?_
  refine pwp_reg fun R8 hR8 => ?_
  refine pops_mv (.inr rfl) rfl (by simp only [St.eval, constSlot] <;> rfl) ?_
  refine pops_done (hR8 _ ?_)
  clear hR8 R8
  try simp only [thenK, scopeK]
  refine hN7 _ ?_
  clear hN7 N7
  refine pwp_ret ?_
  simp only [thenK, blockK, scopeK, bodyK]
  clear hN3 N3
  refine ⟨_, rfl, endFun (Same.refl _) ?_⟩
  try simp only [upd_at, Nat.reduceEqDiff, if_true, if_false, dealPV]
  all_goals
   rw [dealE_big hbig]
 ·skip
  rw [max3] at c24
  have hbig : ¬ (d.acts.length > 20000 ∨ d.refs.length > 5000 ∨ d.eqs.length > 5000 ∨ d.cons.length > 5000) := by simp only [Bool.or_eq_false_iff, decide_eq_false_iff_not] at c24; omega
  refine pwp_skip ?_
  try simp only [thenK, scopeK]
  refine hN3 _ ?_
  clear hN3 N3
  refine pwp_then fun N9 hN9 => ?_
  refine pwp_then fun N10 hN10 => ?_
  refine pwp_reg fun R11 hR11 => ?_
  refine pops_to rfl fun M hM => ?_
  simp only [pop, St.eval, constSlot, upd_at, Nat.reduceEqDiff, if_true, if_false, popFieldAddr, fieldOf, List.drop_succ_cons, List.drop_zero, List.getElem?_toArray, List.getElem?_cons_zero, List.getElem?_cons_succ, Tryd.underlying26, sz22, dealPV]
  refine ⟨⟨_, rfl⟩, hM _ _ ?_⟩
  clear hM M
  refine pops_to rfl fun M hM => ?_
  simp only [pop, St.eval, constSlot, upd_at, Nat.reduceEqDiff, if_true, if_false, popLoad, loadK, isAggD, List.drop_zero, List.getElem?_toArray, List.getElem?_cons_zero, List.getElem?_cons_succ, Bool.false_eq_true, Tryd.underlying22, sz22, eq_self, true_and, and_true, dealPV]
  refine hM _ _ ?_
  clear hM M
  refine pops_to rfl fun M hM => ?_
  simp only [pop, St.eval, constSlot, upd_at, Nat.reduceEqDiff, if_true, if_false, popCall, List.toList_toArray, List.map_cons, List.map_nil, popBuiltin, popLen, lenOfSlot, List.length_map, Tryd.underlying22, eq_self, true_and, and_true, str_list, str_size, str_app, str_cut, str_get, dealPV, List.length_map]
  refine hM _ _ ?_
  clear hM M
  refine pops_mv (.inl rfl) rfl (by simp only [St.eval, constSlot] <;> rfl) ?_
  refine pops_done (hR11 _ ?_)
  clear hR11 R11
  try simp only [thenK, scopeK]
  refine hN10 _ ?_
  clear hN10 N10
  refine pwp_block ?_
  refine pwp_loop (fun k σ => ∃ (i : Nat), (k = d.acts.length - i) ∧ (i ≤ d.acts.length) ∧ (∀ y ∈ d.acts.take i, actE y = 0) ∧ (Same h σ.hp) ∧ (σ.env 1 = .sv (.one (.rop (dealPV d)))) ∧ (σ.env 26 = .sv (.one (.ro false 6 (d.acts.map actPV)))) ∧ (σ.env 27 = .sv (.one (pint (d.acts.length : Nat)))) ∧ (σ.env 28 = .sv (.one (pint (i : Nat))))) _ ⟨_, .refl _ _, 0, rfl, ?_⟩ ?_
  · exact ⟨Nat.zero_le _, by simp, (Same.refl _), by simp only [upd_at, Nat.reduceEqDiff, if_true, if_false, dealPV], by simp only [upd_at, Nat.reduceEqDiff, if_true, if_false, dealPV], by simp only [upd_at, Nat.reduceEqDiff, if_true, if_false, dealPV], by simp only [upd_at, Nat.reduceEqDiff, if_true, if_false] <;> rfl⟩
  ·rintro k ⟨e, hp0⟩ ⟨i, hk0, hx0_0, hx0_1, sl0, e0_1, e0_26, e0_27, e0_28⟩
   simp only at sl0 e0_1 e0_26 e0_27 e0_28
   refine pwp_then fun N12 hN12 => ?_
   refine pwp_reg fun R13 hR13 => ?_
   refine pops_to rfl fun M hM => ?_
   simp only [pop, St.eval, constSlot, upd_at, Nat.reduceEqDiff, if_true, if_false, popBin, binK, intK, strK, eqK, eq_self, true_and, and_true, e0_1, e0_26, e0_27, e0_28, dealPV]
   refine hM _ _ ?_
   clear hM M
   refine pops_done (hR13 _ ?_)
   clear hR13 R13
   try simp only [thenK, scopeK]
   refine hN12 _ ?_
   clear hN12 N12
   refine pwp_then fun N14 hN14 => ?_
   refine pwp_cond (by simp only [St.eval, upd_at, Nat.reduceEqDiff, if_true, if_false, e0_1, e0_26, e0_27, e0_28, dealPV] <;> rfl) (fun c29 => ?_) (fun c29 => ?_)
   ·skip
    have hi : i < d.acts.length := by have := of_decide_eq_true c29; omega
    obtain ⟨x, hx⟩ : ∃ x, d.acts[i]? = some x := ⟨_, List.getElem?_eq_getElem hi⟩
    have hget : (d.acts.map actPV)[i]? = some [pint x.kind, pint x.side, pstr x.src, pstr x.dst, pint x.size, pint x.time] := by simp only [List.getElem?_map, hx, Option.map_some]
    refine pwp_skip ?_
    try simp only [thenK, scopeK]
    refine hN14 _ ?_
    clear hN14 N14
    refine pwp_then fun N15 hN15 => ?_
    refine pwp_block ?_
    refine pwp_then fun N16 hN16 => ?_
    refine pwp_reg fun R17 hR17 => ?_
    refine pops_to rfl fun M hM => ?_
    simp only [pop, St.eval, constSlot, upd_at, Nat.reduceEqDiff, if_true, if_false, popIndexAddr, Tryd.underlying22, sz35, eq_self, true_and, and_true, str_list, str_size, str_app, str_cut, str_get, e0_1, e0_26, e0_27, e0_28, dealPV, hget, Int.toNat_natCast]
    refine ⟨Int.natCast_nonneg _, hM _ _ ?_⟩
    clear hM M
    refine pops_to rfl fun M hM => ?_
    simp only [pop, St.eval, constSlot, upd_at, Nat.reduceEqDiff, if_true, if_false, List.length_cons, List.length_nil, Nat.zero_add, Nat.reduceAdd, Nat.reduceLeDiff, List.take_zero, List.take_succ_cons, List.take_nil, List.drop_succ_cons, List.drop_zero, List.drop_nil, List.nil_append, List.cons_append, List.append_nil, and_self, List.getElem?_cons_zero, List.getElem?_cons_succ, List.set_cons_zero, List.set_cons_succ, Option.some.injEq, popLoad, loadK, isAggD, List.drop_zero, List.getElem?_toArray, List.getElem?_cons_zero, List.getElem?_cons_succ, Bool.false_eq_true, Tryd.underlying35, sz35, eq_self, true_and, and_true, e0_1, e0_26, e0_27, e0_28, dealPV]
    refine hM _ _ ?_
    clear hM M
    refine pops_var (hpOk.same hb sl0) rfl ze35 (zs := [PV.val (.int .i64 0), PV.val (.int .i64 0), PV.val (.string ⟨#[]⟩), PV.val (.string ⟨#[]⟩), PV.val (.int .i64 0), PV.val (.int .i64 0)]) (by kernel_rfl) (by simp) (by simp only [St.eval, constSlot, slotCells, upd_at, Nat.reduceEqDiff, if_true, if_false, e0_1, e0_26, e0_27, e0_28, dealPV] <;> rfl) (by rfl) (by exact Nat.succ_pos _) (by rw [sz35]; rfl) (fun hv18 sv18 => ?_)
    replace sv18 := Same.trans sl0 sv18
    refine pops_done (hR17 _ ?_)
    clear hR17 R17
    try simp only [thenK, scopeK]
    refine hN16 _ ?_
    clear hN16 N16
    refine pwp_then fun N19 hN19 => ?_
    refine pwp_reg fun R20 hR20 => ?_
    refine pops_to rfl fun M hM => ?_
    simp only [pop, St.eval, constSlot, upd_at, Nat.reduceEqDiff, if_true, if_false, popFieldAddr, fieldOf, List.drop_succ_cons, List.drop_zero, List.getElem?_toArray, List.getElem?_cons_zero, List.getElem?_cons_succ, Tryd.underlying35, sz3, e0_1, e0_26, e0_27, e0_28, dealPV]
    refine ⟨⟨_, rfl⟩, hM _ _ ?_⟩
    clear hM M
    refine pops_to rfl fun M hM => ?_
    simp only [pop, St.eval, constSlot, upd_at, Nat.reduceEqDiff, if_true, if_false, popLoad, loadK, isAggD, List.drop_zero, List.getElem?_toArray, List.getElem?_cons_zero, List.getElem?_cons_succ, Bool.false_eq_true, Tryd.underlying3, sz3, eq_self, true_and, and_true, e0_1, e0_26, e0_27, e0_28, dealPV]
    refine hM _ _ ?_
    clear hM M
    refine pops_to rfl fun M hM => ?_
    simp only [pop, St.eval, constSlot, upd_at, Nat.reduceEqDiff, if_true, if_false, popBin, binK, intK, strK, eqK, Tryd.underlying3, isPtr, eq_self, true_and, and_true, e0_1, e0_26, e0_27, e0_28, dealPV]
    refine hM _ _ ?_
    clear hM M
    refine pops_mv (.inl rfl) rfl (by simp only [St.eval, upd_at, Nat.reduceEqDiff, if_true, if_false, e0_1, e0_26, e0_27, e0_28, dealPV] <;> rfl) ?_
    apply pops_or0 4 35 39 [36, 37, 38] (by simp only [upd_at, Nat.reduceEqDiff, if_true, if_false, e0_1, e0_26, e0_27, e0_28, dealPV] <;> rfl)
    ·skip
     intro g35_0 J21 hJ21
     simp only [List.take_succ_cons, List.take_zero]
     simp only [anyAt_cons, anyAt_nil] at hJ21
     refine pops_do rfl rfl (by simp only [upd_at, Nat.reduceEqDiff, if_true, if_false, e0_1, e0_26, e0_27, e0_28, dealPV, g35_0]) fun M hM => ?_
     simp only [pop, St.eval, constSlot, upd_at, Nat.reduceEqDiff, if_true, if_false, popFieldAddr, fieldOf, List.drop_succ_cons, List.drop_zero, List.getElem?_toArray, List.getElem?_cons_zero, List.getElem?_cons_succ, Tryd.underlying35, sz3, e0_1, e0_26, e0_27, e0_28, dealPV, g35_0]
     refine ⟨⟨_, rfl⟩, hM _ _ ?_⟩
     clear hM M
     refine pops_do rfl rfl (by simp only [upd_at, Nat.reduceEqDiff, if_true, if_false, e0_1, e0_26, e0_27, e0_28, dealPV, g35_0]) fun M hM => ?_
     simp only [pop, St.eval, constSlot, upd_at, Nat.reduceEqDiff, if_true, if_false, popLoad, loadK, isAggD, List.drop_zero, List.getElem?_toArray, List.getElem?_cons_zero, List.getElem?_cons_succ, Bool.false_eq_true, Tryd.underlying3, sz3, eq_self, true_and, and_true, e0_1, e0_26, e0_27, e0_28, dealPV, g35_0]
     refine hM _ _ ?_
     clear hM M
     refine pops_do rfl rfl (by simp only [upd_at, Nat.reduceEqDiff, if_true, if_false, e0_1, e0_26, e0_27, e0_28, dealPV, g35_0]) fun M hM => ?_
     simp only [pop, St.eval, constSlot, upd_at, Nat.reduceEqDiff, if_true, if_false, popBin, binK, intK, strK, eqK, Tryd.underlying3, isPtr, eq_self, true_and, and_true, e0_1, e0_26, e0_27, e0_28, dealPV, g35_0]
     refine hM _ _ ?_
     clear hM M
     refine pops_to rfl fun M hM => ?_
     simp only [pop, St.eval, constSlot, upd_at, Nat.reduceEqDiff, if_true, if_false, popIf, true_implies, false_implies, Bool.true_eq_false, Bool.false_eq_true, reduceCtorEq, true_and, and_true, e0_1, e0_26, e0_27, e0_28, dealPV, g35_0]
     refine hM _ _ ?_
     clear hM M
     exact pops_done (hJ21 _ (wk_same (wk_any ((wk_any ((wk_any (Wk.refl _ _))))))))
    ·skip
     intro g35_0 J21 hJ21
     simp only [List.take_succ_cons, List.take_zero]
     simp only [anyAt_cons, anyAt_nil] at hJ21
     refine pops_off (b := true) rfl rfl (by simp only [upd_at, Nat.reduceEqDiff, if_true, if_false, e0_1, e0_26, e0_27, e0_28, dealPV, g35_0]) (by decide) ?_
     refine pops_off (b := true) rfl rfl (by simp only [upd_at, Nat.reduceEqDiff, if_true, if_false, e0_1, e0_26, e0_27, e0_28, dealPV, g35_0]) (by decide) ?_
     refine pops_off (b := true) rfl rfl (by simp only [upd_at, Nat.reduceEqDiff, if_true, if_false, e0_1, e0_26, e0_27, e0_28, dealPV, g35_0]) (by decide) ?_
     refine pops_to rfl fun M hM => ?_
     simp only [pop, St.eval, constSlot, upd_at, Nat.reduceEqDiff, if_true, if_false, popIf, true_implies, false_implies, Bool.true_eq_false, Bool.false_eq_true, reduceCtorEq, true_and, and_true, e0_1, e0_26, e0_27, e0_28, dealPV, g35_0]
     refine hM _ _ ?_
     clear hM M
     exact pops_done (hJ21 _ (wk_same (wk_any ((wk_any ((wk_any (Wk.refl _ _))))))))
    simp only [List.drop_succ_cons, List.drop_zero, anyAt_cons, anyAt_nil]
    refine pops_mv (.inr rfl) rfl (by simp only [St.eval, upd_at, Nat.reduceEqDiff, if_true, if_false, e0_1, e0_26, e0_27, e0_28, dealPV] <;> rfl) ?_
    refine pops_done (hR20 _ ?_)
    clear hR20 R20
    try simp only [thenK, scopeK]
    refine hN19 _ ?_
    clear hN19 N19
    refine pwp_block ?_
    refine pwp_then fun N22 hN22 => ?_
    refine pwp_reg fun R23 hR23 => ?_
    refine pops_to rfl fun M hM => ?_
    simp only [pop, St.eval, constSlot, upd_at, Nat.reduceEqDiff, if_true, if_false, popFieldAddr, fieldOf, List.drop_succ_cons, List.drop_zero, List.getElem?_toArray, List.getElem?_cons_zero, List.getElem?_cons_succ, Tryd.underlying35, sz3, e0_1, e0_26, e0_27, e0_28, dealPV]
    refine ⟨⟨_, rfl⟩, hM _ _ ?_⟩
    clear hM M
    refine pops_to rfl fun M hM => ?_
    simp only [pop, St.eval, constSlot, upd_at, Nat.reduceEqDiff, if_true, if_false, popLoad, loadK, isAggD, List.drop_zero, List.getElem?_toArray, List.getElem?_cons_zero, List.getElem?_cons_succ, Bool.false_eq_true, Tryd.underlying3, sz3, eq_self, true_and, and_true, e0_1, e0_26, e0_27, e0_28, dealPV]
    refine hM _ _ ?_
    clear hM M
    refine pops_to rfl fun M hM => ?_
    simp only [pop, St.eval, constSlot, upd_at, Nat.reduceEqDiff, if_true, if_false, popBin, binK, intK, strK, eqK, eq_self, true_and, and_true, e0_1, e0_26, e0_27, e0_28, dealPV]
    refine hM _ _ ?_
    clear hM M
    refine pops_mv (.inl rfl) rfl (by simp only [St.eval, upd_at, Nat.reduceEqDiff, if_true, if_false, e0_1, e0_26, e0_27, e0_28, dealPV] <;> rfl) ?_
    apply pops_or0 4 44 48 [45, 46, 47] (by simp only [upd_at, Nat.reduceEqDiff, if_true, if_false, e0_1, e0_26, e0_27, e0_28, dealPV] <;> rfl)
    ·skip
     intro g44_0 J24 hJ24
     simp only [List.take_succ_cons, List.take_zero]
     simp only [anyAt_cons, anyAt_nil] at hJ24
     refine pops_do rfl rfl (by simp only [upd_at, Nat.reduceEqDiff, if_true, if_false, e0_1, e0_26, e0_27, e0_28, dealPV, g44_0]) fun M hM => ?_
     simp only [pop, St.eval, constSlot, upd_at, Nat.reduceEqDiff, if_true, if_false, popFieldAddr, fieldOf, List.drop_succ_cons, List.drop_zero, List.getElem?_toArray, List.getElem?_cons_zero, List.getElem?_cons_succ, Tryd.underlying35, sz3, e0_1, e0_26, e0_27, e0_28, dealPV, g44_0]
     refine ⟨⟨_, rfl⟩, hM _ _ ?_⟩
     clear hM M
     refine pops_do rfl rfl (by simp only [upd_at, Nat.reduceEqDiff, if_true, if_false, e0_1, e0_26, e0_27, e0_28, dealPV, g44_0]) fun M hM => ?_
     simp only [pop, St.eval, constSlot, upd_at, Nat.reduceEqDiff, if_true, if_false, popLoad, loadK, isAggD, List.drop_zero, List.getElem?_toArray, List.getElem?_cons_zero, List.getElem?_cons_succ, Bool.false_eq_true, Tryd.underlying3, sz3, eq_self, true_and, and_true, e0_1, e0_26, e0_27, e0_28, dealPV, g44_0]
     refine hM _ _ ?_
     clear hM M
     refine pops_do rfl rfl (by simp only [upd_at, Nat.reduceEqDiff, if_true, if_false, e0_1, e0_26, e0_27, e0_28, dealPV, g44_0]) fun M hM => ?_
     simp only [pop, St.eval, constSlot, upd_at, Nat.reduceEqDiff, if_true, if_false, popBin, binK, intK, strK, eqK, eq_self, true_and, and_true, e0_1, e0_26, e0_27, e0_28, dealPV, g44_0]
     refine hM _ _ ?_
     clear hM M
     refine pops_to rfl fun M hM => ?_
     simp only [pop, St.eval, constSlot, upd_at, Nat.reduceEqDiff, if_true, if_false, popIf, true_implies, false_implies, Bool.true_eq_false, Bool.false_eq_true, reduceCtorEq, true_and, and_true, e0_1, e0_26, e0_27, e0_28, dealPV, g44_0]
     refine hM _ _ ?_
     clear hM M
     exact pops_done (hJ24 _ (wk_same (wk_any ((wk_any ((wk_any (Wk.refl _ _))))))))
    ·skip
     intro g44_0 J24 hJ24
     simp only [List.take_succ_cons, List.take_zero]
     simp only [anyAt_cons, anyAt_nil] at hJ24
     refine pops_off (b := true) rfl rfl (by simp only [upd_at, Nat.reduceEqDiff, if_true, if_false, e0_1, e0_26, e0_27, e0_28, dealPV, g44_0]) (by decide) ?_
     refine pops_off (b := true) rfl rfl (by simp only [upd_at, Nat.reduceEqDiff, if_true, if_false, e0_1, e0_26, e0_27, e0_28, dealPV, g44_0]) (by decide) ?_
     refine pops_off (b := true) rfl rfl (by simp only [upd_at, Nat.reduceEqDiff, if_true, if_false, e0_1, e0_26, e0_27, e0_28, dealPV, g44_0]) (by decide) ?_
     refine pops_to rfl fun M hM => ?_
     simp only [pop, St.eval, constSlot, upd_at, Nat.reduceEqDiff, if_true, if_false, popIf, true_implies, false_implies, Bool.true_eq_false, Bool.false_eq_true, reduceCtorEq, true_and, and_true, e0_1, e0_26, e0_27, e0_28, dealPV, g44_0]
     refine hM _ _ ?_
     clear hM M
     exact pops_done (hJ24 _ (wk_same (wk_any ((wk_any ((wk_any (Wk.refl _ _))))))))
    simp only [List.drop_succ_cons, List.drop_zero, anyAt_cons, anyAt_nil]
    refine pops_mv (.inl rfl) rfl (by simp only [St.eval, upd_at, Nat.reduceEqDiff, if_true, if_false, e0_1, e0_26, e0_27, e0_28, dealPV] <;> rfl) ?_
    apply pops_or0 9 49 58 [50, 51, 52, 53, 54, 55, 56, 57] (by simp only [upd_at, Nat.reduceEqDiff, if_true, if_false, e0_1, e0_26, e0_27, e0_28, dealPV] <;> rfl)
    ·skip
     intro g49_0 J25 hJ25
     simp only [List.take_succ_cons, List.take_zero]
     simp only [anyAt_cons, anyAt_nil] at hJ25
     refine pops_do rfl rfl (by simp only [upd_at, Nat.reduceEqDiff, if_true, if_false, e0_1, e0_26, e0_27, e0_28, dealPV, g49_0]) fun M hM => ?_
     simp only [pop, St.eval, constSlot, upd_at, Nat.reduceEqDiff, if_true, if_false, popFieldAddr, fieldOf, List.drop_succ_cons, List.drop_zero, List.getElem?_toArray, List.getElem?_cons_zero, List.getElem?_cons_succ, Tryd.underlying35, sz3, e0_1, e0_26, e0_27, e0_28, dealPV, g49_0]
     refine ⟨⟨_, rfl⟩, hM _ _ ?_⟩
     clear hM M
     refine pops_do rfl rfl (by simp only [upd_at, Nat.reduceEqDiff, if_true, if_false, e0_1, e0_26, e0_27, e0_28, dealPV, g49_0]) fun M hM => ?_
     simp only [pop, St.eval, constSlot, upd_at, Nat.reduceEqDiff, if_true, if_false, popLoad, loadK, isAggD, List.drop_zero, List.getElem?_toArray, List.getElem?_cons_zero, List.getElem?_cons_succ, Bool.false_eq_true, Tryd.underlying3, sz3, eq_self, true_and, and_true, e0_1, e0_26, e0_27, e0_28, dealPV, g49_0]
     refine hM _ _ ?_
     clear hM M
     refine pops_do rfl rfl (by simp only [upd_at, Nat.reduceEqDiff, if_true, if_false, e0_1, e0_26, e0_27, e0_28, dealPV, g49_0]) fun M hM => ?_
     simp only [pop, St.eval, constSlot, upd_at, Nat.reduceEqDiff, if_true, if_false, popBin, binK, intK, strK, eqK, Tryd.underlying3, isPtr, eq_self, true_and, and_true, e0_1, e0_26, e0_27, e0_28, dealPV, g49_0]
     refine hM _ _ ?_
     clear hM M
     refine pops_mvg (.inl rfl) rfl rfl (by simp only [upd_at, Nat.reduceEqDiff, if_true, if_false, e0_1, e0_26, e0_27, e0_28, dealPV, g49_0]) (by simp only [St.eval, upd_at, Nat.reduceEqDiff, if_true, if_false, e0_1, e0_26, e0_27, e0_28, dealPV, g49_0] <;> rfl) ?_
     apply pops_and0 4 53 57 [54, 55, 56] (by simp only [upd_at, Nat.reduceEqDiff, if_true, if_false, e0_1, e0_26, e0_27, e0_28, dealPV, g49_0] <;> rfl)
     ·skip
      intro g53_1 J26 hJ26
      simp only [List.take_succ_cons, List.take_zero]
      simp only [anyAt_cons, anyAt_nil] at hJ26
      refine pops_do rfl rfl (by simp only [upd_at, Nat.reduceEqDiff, if_true, if_false, e0_1, e0_26, e0_27, e0_28, dealPV, g49_0, g53_1]) fun M hM => ?_
      simp only [pop, St.eval, constSlot, upd_at, Nat.reduceEqDiff, if_true, if_false, popFieldAddr, fieldOf, List.drop_succ_cons, List.drop_zero, List.getElem?_toArray, List.getElem?_cons_zero, List.getElem?_cons_succ, Tryd.underlying35, sz3, e0_1, e0_26, e0_27, e0_28, dealPV, g49_0, g53_1]
      refine ⟨⟨_, rfl⟩, hM _ _ ?_⟩
      clear hM M
      refine pops_do rfl rfl (by simp only [upd_at, Nat.reduceEqDiff, if_true, if_false, e0_1, e0_26, e0_27, e0_28, dealPV, g49_0, g53_1]) fun M hM => ?_
      simp only [pop, St.eval, constSlot, upd_at, Nat.reduceEqDiff, if_true, if_false, popLoad, loadK, isAggD, List.drop_zero, List.getElem?_toArray, List.getElem?_cons_zero, List.getElem?_cons_succ, Bool.false_eq_true, Tryd.underlying3, sz3, eq_self, true_and, and_true, e0_1, e0_26, e0_27, e0_28, dealPV, g49_0, g53_1]
      refine hM _ _ ?_
      clear hM M
      refine pops_do rfl rfl (by simp only [upd_at, Nat.reduceEqDiff, if_true, if_false, e0_1, e0_26, e0_27, e0_28, dealPV, g49_0, g53_1]) fun M hM => ?_
      simp only [pop, St.eval, constSlot, upd_at, Nat.reduceEqDiff, if_true, if_false, popBin, binK, intK, strK, eqK, Tryd.underlying3, isPtr, eq_self, true_and, and_true, e0_1, e0_26, e0_27, e0_28, dealPV, g49_0, g53_1]
      refine hM _ _ ?_
      clear hM M
      refine pops_do rfl rfl (by simp only [upd_at, Nat.reduceEqDiff, if_true, if_false, e0_1, e0_26, e0_27, e0_28, dealPV, g49_0, g53_1]) fun M hM => ?_
      simp only [pop, St.eval, constSlot, upd_at, Nat.reduceEqDiff, if_true, if_false, popIf, true_implies, false_implies, Bool.true_eq_false, Bool.false_eq_true, reduceCtorEq, true_and, and_true, e0_1, e0_26, e0_27, e0_28, dealPV, g49_0, g53_1]
      refine hM _ _ ?_
      clear hM M
      exact pops_done (hJ26 _ (wk_same (wk_any ((wk_any ((wk_any (Wk.refl _ _))))))))
     ·skip
      intro g53_1 J26 hJ26
      simp only [List.take_succ_cons, List.take_zero]
      simp only [anyAt_cons, anyAt_nil] at hJ26
      refine pops_off (b := false) rfl rfl (by simp only [upd_at, Nat.reduceEqDiff, if_true, if_false, e0_1, e0_26, e0_27, e0_28, dealPV, g49_0, g53_1]) (by decide) ?_
      refine pops_off (b := false) rfl rfl (by simp only [upd_at, Nat.reduceEqDiff, if_true, if_false, e0_1, e0_26, e0_27, e0_28, dealPV, g49_0, g53_1]) (by decide) ?_
      refine pops_off (b := false) rfl rfl (by simp only [upd_at, Nat.reduceEqDiff, if_true, if_false, e0_1, e0_26, e0_27, e0_28, dealPV, g49_0, g53_1]) (by decide) ?_
      refine pops_do rfl rfl (by simp only [upd_at, Nat.reduceEqDiff, if_true, if_false, e0_1, e0_26, e0_27, e0_28, dealPV, g49_0, g53_1]) fun M hM => ?_
      simp only [pop, St.eval, constSlot, upd_at, Nat.reduceEqDiff, if_true, if_false, popIf, true_implies, false_implies, Bool.true_eq_false, Bool.false_eq_true, reduceCtorEq, true_and, and_true, e0_1, e0_26, e0_27, e0_28, dealPV, g49_0, g53_1]
      refine hM _ _ ?_
      clear hM M
      exact pops_done (hJ26 _ (wk_same (wk_any ((wk_any ((wk_any (Wk.refl _ _))))))))
     simp only [List.drop_succ_cons, List.drop_zero, anyAt_cons, anyAt_nil]
     refine pops_to rfl fun M hM => ?_
     simp only [pop, St.eval, constSlot, upd_at, Nat.reduceEqDiff, if_true, if_false, popIf, true_implies, false_implies, Bool.true_eq_false, Bool.false_eq_true, reduceCtorEq, true_and, and_true, e0_1, e0_26, e0_27, e0_28, dealPV, g49_0]
     refine hM _ _ ?_
     clear hM M
     exact pops_done (hJ25 _ (wk_same (wk_any ((wk_any ((wk_any ((wk_any ((wk_any ((wk_any ((wk_any ((wk_any (Wk.refl _ _))))))))))))))))))
    ·skip
     intro g49_0 J25 hJ25
     simp only [List.take_succ_cons, List.take_zero]
     simp only [anyAt_cons, anyAt_nil] at hJ25
     refine pops_off (b := true) rfl rfl (by simp only [upd_at, Nat.reduceEqDiff, if_true, if_false, e0_1, e0_26, e0_27, e0_28, dealPV, g49_0]) (by decide) ?_
     refine pops_off (b := true) rfl rfl (by simp only [upd_at, Nat.reduceEqDiff, if_true, if_false, e0_1, e0_26, e0_27, e0_28, dealPV, g49_0]) (by decide) ?_
     refine pops_off (b := true) rfl rfl (by simp only [upd_at, Nat.reduceEqDiff, if_true, if_false, e0_1, e0_26, e0_27, e0_28, dealPV, g49_0]) (by decide) ?_
     refine pops_off (b := true) rfl rfl (by simp only [upd_at, Nat.reduceEqDiff, if_true, if_false, e0_1, e0_26, e0_27, e0_28, dealPV, g49_0]) (by decide) ?_
     refine pops_off0 rfl rfl (by simp only [upd_at, Nat.reduceEqDiff, if_true, if_false, e0_1, e0_26, e0_27, e0_28, dealPV, g49_0]) ?_
     refine pops_off0 rfl rfl (by simp only [upd_at, Nat.reduceEqDiff, if_true, if_false, e0_1, e0_26, e0_27, e0_28, dealPV, g49_0]) ?_
     refine pops_off0 rfl rfl (by simp only [upd_at, Nat.reduceEqDiff, if_true, if_false, e0_1, e0_26, e0_27, e0_28, dealPV, g49_0]) ?_
     refine pops_off (b := true) rfl rfl (by simp only [upd_at, Nat.reduceEqDiff, if_true, if_false, e0_1, e0_26, e0_27, e0_28, dealPV, g49_0]) (by decide) ?_
     refine pops_to rfl fun M hM => ?_
     simp only [pop, St.eval, constSlot, upd_at, Nat.reduceEqDiff, if_true, if_false, popIf, true_implies, false_implies, Bool.true_eq_false, Bool.false_eq_true, reduceCtorEq, true_and, and_true, e0_1, e0_26, e0_27, e0_28, dealPV, g49_0]
     refine hM _ _ ?_
     clear hM M
     exact pops_done (hJ25 _ (wk_same (wk_any ((wk_any ((wk_any ((wk_any ((wk_any ((wk_any ((wk_any ((wk_any (Wk.refl _ _))))))))))))))))))
    simp only [List.drop_succ_cons, List.drop_zero, anyAt_cons, anyAt_nil]
    refine pops_mv (.inr rfl) rfl (by simp only [St.eval, upd_at, Nat.reduceEqDiff, if_true, if_false, e0_1, e0_26, e0_27, e0_28, dealPV] <;> rfl) ?_
    refine pops_done (hR23 _ ?_)
    clear hR23 R23
    try simp only [thenK, scopeK]
    refine hN22 _ ?_
    clear hN22 N22
    refine pwp_cond (by simp only [St.eval, upd_at, Nat.reduceEqDiff, if_true, if_false, e0_1, e0_26, e0_27, e0_28, dealPV] <;> rfl) (fun c40 => ?_) (fun c40 => ?_)
    ·skip
     have hv : actE x = 5 := by rw [actE, if_pos (show actC5 x = true from c40)]
     have hne : actE x ≠ 0 := by rw [hv]; decide
     have hact := actsE_hit hx0_1 hx hne
     refine pwp_then fun N27 hN27 => ?_
     refine pwp_reg fun R28 hR28 => ?_
     refine pops_mv (.inr rfl) rfl (by simp only [St.eval, constSlot] <;> rfl) ?_
     refine pops_done (hR28 _ ?_)
     clear hR28 R28
     try simp only [thenK, scopeK]
     refine hN27 _ ?_
     clear hN27 N27
     refine pwp_ret ?_
     simp only [thenK, blockK, scopeK, bodyK]
     clear hN15 N15 hN9 N9
     refine ⟨_, rfl, endFun sv18 ?_⟩
     try simp only [upd_at, Nat.reduceEqDiff, if_true, if_false, e0_1, e0_26, e0_27, e0_28, dealPV]
     all_goals
      rw [dealE_act hbig (by rw [hact]; exact hne), hact, hv]
    ·skip
     have h40 : actC5 x = false := c40
     refine pwp_then fun N29 hN29 => ?_
     refine pwp_reg fun R30 hR30 => ?_
     refine pops_to rfl fun M hM => ?_
     simp only [pop, St.eval, constSlot, upd_at, Nat.reduceEqDiff, if_true, if_false, popFieldAddr, fieldOf, List.drop_succ_cons, List.drop_zero, List.getElem?_toArray, List.getElem?_cons_zero, List.getElem?_cons_succ, Tryd.underlying35, sz9, e0_1, e0_26, e0_27, e0_28, dealPV]
     refine ⟨⟨_, rfl⟩, hM _ _ ?_⟩
     clear hM M
     refine pops_to rfl fun M hM => ?_
     simp only [pop, St.eval, constSlot, upd_at, Nat.reduceEqDiff, if_true, if_false, popLoad, loadK, isAggD, List.drop_zero, List.getElem?_toArray, List.getElem?_cons_zero, List.getElem?_cons_succ, Bool.false_eq_true, Tryd.underlying9, sz9, eq_self, true_and, and_true, e0_1, e0_26, e0_27, e0_28, dealPV]
     refine hM _ _ ?_
     clear hM M
     refine pops_to rfl fun M hM => ?_
     simp only [pop, St.eval, constSlot, upd_at, Nat.reduceEqDiff, if_true, if_false, popBin, binK, intK, strK, eqK, Tryd.underlying9, isPtr, eq_self, true_and, and_true, str_list, str_size, str_app, str_cut, str_get, e0_1, e0_26, e0_27, e0_28, dealPV]
     refine hM _ _ ?_
     clear hM M
     refine pops_mv (.inl rfl) rfl (by simp only [St.eval, upd_at, Nat.reduceEqDiff, if_true, if_false, e0_1, e0_26, e0_27, e0_28, dealPV] <;> rfl) ?_
     apply pops_or 5 63 68 [64, 65, 66, 67] (by simp only [upd_at, Nat.reduceEqDiff, if_true, if_false, e0_1, e0_26, e0_27, e0_28, dealPV] <;> rfl)
     ·skip
      intro g63_0 J31 hJ31
      simp only [List.take_succ_cons, List.take_zero]
      simp only [anyAt_cons, anyAt_nil] at hJ31
      refine pops_do rfl rfl (by simp only [upd_at, Nat.reduceEqDiff, if_true, if_false, e0_1, e0_26, e0_27, e0_28, dealPV, g63_0]) fun M hM => ?_
      simp only [pop, St.eval, constSlot, upd_at, Nat.reduceEqDiff, if_true, if_false, popFieldAddr, fieldOf, List.drop_succ_cons, List.drop_zero, List.getElem?_toArray, List.getElem?_cons_zero, List.getElem?_cons_succ, Tryd.underlying35, sz9, e0_1, e0_26, e0_27, e0_28, dealPV, g63_0]
      refine ⟨⟨_, rfl⟩, hM _ _ ?_⟩
      clear hM M
      refine pops_do rfl rfl (by simp only [upd_at, Nat.reduceEqDiff, if_true, if_false, e0_1, e0_26, e0_27, e0_28, dealPV, g63_0]) fun M hM => ?_
      simp only [pop, St.eval, constSlot, upd_at, Nat.reduceEqDiff, if_true, if_false, popLoad, loadK, isAggD, List.drop_zero, List.getElem?_toArray, List.getElem?_cons_zero, List.getElem?_cons_succ, Bool.false_eq_true, Tryd.underlying9, sz9, eq_self, true_and, and_true, e0_1, e0_26, e0_27, e0_28, dealPV, g63_0]
      refine hM _ _ ?_
      clear hM M
      refine pops_do rfl rfl (by simp only [upd_at, Nat.reduceEqDiff, if_true, if_false, e0_1, e0_26, e0_27, e0_28, dealPV, g63_0]) fun M hM => ?_
      simp only [pop, St.eval, constSlot, upd_at, Nat.reduceEqDiff, if_true, if_false, popCall, List.toList_toArray, List.map_cons, List.map_nil, svs, List.mapM_cons, List.mapM_nil, Option.bind_eq_bind, Option.bind_some, Option.pure_def, List.append_nil, List.cons_append, List.nil_append, str_size, e0_1, e0_26, e0_27, e0_28, dealPV, g63_0]
      refine PFun.use (isPath_fun W0 hm x.src) fun h1 s1 => hM _ _ ?_
      replace s1 := Same.trans (Same.refl _) s1
      clear hM M
      refine pops_do rfl rfl (by simp only [upd_at, Nat.reduceEqDiff, if_true, if_false, e0_1, e0_26, e0_27, e0_28, dealPV, g63_0]) fun M hM => ?_
      simp only [pop, St.eval, constSlot, upd_at, Nat.reduceEqDiff, if_true, if_false, unK, e0_1, e0_26, e0_27, e0_28, dealPV, g63_0]
      refine hM _ _ ?_
      clear hM M
      refine pops_to rfl fun M hM => ?_
      simp only [pop, St.eval, constSlot, upd_at, Nat.reduceEqDiff, if_true, if_false, popIf, true_implies, false_implies, Bool.true_eq_false, Bool.false_eq_true, reduceCtorEq, true_and, and_true, e0_1, e0_26, e0_27, e0_28, dealPV, g63_0]
      refine hM _ _ ?_
      clear hM M
      exact pops_done (hJ31 _ _ s1 (wk_same (wk_any ((wk_any ((wk_any ((wk_any (Wk.refl _ _))))))))))
     ·skip
      intro g63_0 J31 hJ31
      simp only [List.take_succ_cons, List.take_zero]
      simp only [anyAt_cons, anyAt_nil] at hJ31
      refine pops_off (b := true) rfl rfl (by simp only [upd_at, Nat.reduceEqDiff, if_true, if_false, e0_1, e0_26, e0_27, e0_28, dealPV, g63_0]) (by decide) ?_
      refine pops_off (b := true) rfl rfl (by simp only [upd_at, Nat.reduceEqDiff, if_true, if_false, e0_1, e0_26, e0_27, e0_28, dealPV, g63_0]) (by decide) ?_
      refine pops_off (b := true) rfl rfl (by simp only [upd_at, Nat.reduceEqDiff, if_true, if_false, e0_1, e0_26, e0_27, e0_28, dealPV, g63_0]) (by decide) ?_
      refine pops_off (b := true) rfl rfl (by simp only [upd_at, Nat.reduceEqDiff, if_true, if_false, e0_1, e0_26, e0_27, e0_28, dealPV, g63_0]) (by decide) ?_
      refine pops_to rfl fun M hM => ?_
      simp only [pop, St.eval, constSlot, upd_at, Nat.reduceEqDiff, if_true, if_false, popIf, true_implies, false_implies, Bool.true_eq_false, Bool.false_eq_true, reduceCtorEq, true_and, and_true, e0_1, e0_26, e0_27, e0_28, dealPV, g63_0]
      refine hM _ _ ?_
      clear hM M
      exact pops_done (hJ31 _ _ (Same.refl _) (wk_same (wk_any ((wk_any ((wk_any ((wk_any (Wk.refl _ _))))))))))
     simp only [List.drop_succ_cons, List.drop_zero, anyAt_cons, anyAt_nil]
     intro hj31 sj31
     replace sj31 := Same.trans sv18 sj31
     refine pops_mv (.inl rfl) rfl (by simp only [St.eval, upd_at, Nat.reduceEqDiff, if_true, if_false, e0_1, e0_26, e0_27, e0_28, dealPV] <;> rfl) ?_
     apply pops_or 13 69 82 [70, 71, 72, 73, 74, 75, 76, 77, 78, 79, 80, 81] (by simp only [upd_at, Nat.reduceEqDiff, if_true, if_false, e0_1, e0_26, e0_27, e0_28, dealPV] <;> rfl)
     ·skip
      intro g69_0 J32 hJ32
      simp only [List.take_succ_cons, List.take_zero]
      simp only [anyAt_cons, anyAt_nil] at hJ32
      refine pops_mvg (.inl rfl) rfl rfl (by simp only [upd_at, Nat.reduceEqDiff, if_true, if_false, e0_1, e0_26, e0_27, e0_28, dealPV, g69_0]) (by simp only [St.eval, upd_at, Nat.reduceEqDiff, if_true, if_false, e0_1, e0_26, e0_27, e0_28, dealPV, g69_0] <;> rfl) ?_
      refine pops_mvg (.inl rfl) rfl rfl (by simp only [upd_at, Nat.reduceEqDiff, if_true, if_false, e0_1, e0_26, e0_27, e0_28, dealPV, g69_0]) (by simp only [St.eval, upd_at, Nat.reduceEqDiff, if_true, if_false, e0_1, e0_26, e0_27, e0_28, dealPV, g69_0] <;> rfl) ?_
      apply pops_and 10 71 81 [72, 73, 74, 75, 76, 77, 78, 79, 80] (by simp only [upd_at, Nat.reduceEqDiff, if_true, if_false, e0_1, e0_26, e0_27, e0_28, dealPV, g69_0] <;> rfl)
      ·skip
       intro g71_1 J33 hJ33
       simp only [List.take_succ_cons, List.take_zero]
       simp only [anyAt_cons, anyAt_nil] at hJ33
       refine pops_do rfl rfl (by simp only [upd_at, Nat.reduceEqDiff, if_true, if_false, e0_1, e0_26, e0_27, e0_28, dealPV, g69_0, g71_1]) fun M hM => ?_
       simp only [pop, St.eval, constSlot, upd_at, Nat.reduceEqDiff, if_true, if_false, popFieldAddr, fieldOf, List.drop_succ_cons, List.drop_zero, List.getElem?_toArray, List.getElem?_cons_zero, List.getElem?_cons_succ, Tryd.underlying35, sz9, e0_1, e0_26, e0_27, e0_28, dealPV, g69_0, g71_1]
       refine ⟨⟨_, rfl⟩, hM _ _ ?_⟩
       clear hM M
       refine pops_do rfl rfl (by simp only [upd_at, Nat.reduceEqDiff, if_true, if_false, e0_1, e0_26, e0_27, e0_28, dealPV, g69_0, g71_1]) fun M hM => ?_
       simp only [pop, St.eval, constSlot, upd_at, Nat.reduceEqDiff, if_true, if_false, popLoad, loadK, isAggD, List.drop_zero, List.getElem?_toArray, List.getElem?_cons_zero, List.getElem?_cons_succ, Bool.false_eq_true, Tryd.underlying9, sz9, eq_self, true_and, and_true, e0_1, e0_26, e0_27, e0_28, dealPV, g69_0, g71_1]
       refine hM _ _ ?_
       clear hM M
       refine pops_do rfl rfl (by simp only [upd_at, Nat.reduceEqDiff, if_true, if_false, e0_1, e0_26, e0_27, e0_28, dealPV, g69_0, g71_1]) fun M hM => ?_
       simp only [pop, St.eval, constSlot, upd_at, Nat.reduceEqDiff, if_true, if_false, popBin, binK, intK, strK, eqK, Tryd.underlying9, isPtr, eq_self, true_and, and_true, str_list, str_size, str_app, str_cut, str_get, e0_1, e0_26, e0_27, e0_28, dealPV, g69_0, g71_1]
       refine hM _ _ ?_
       clear hM M
       refine pops_mvg (.inl rfl) rfl rfl (by simp only [upd_at, Nat.reduceEqDiff, if_true, if_false, e0_1, e0_26, e0_27, e0_28, dealPV, g69_0, g71_1]) (by simp only [St.eval, upd_at, Nat.reduceEqDiff, if_true, if_false, e0_1, e0_26, e0_27, e0_28, dealPV, g69_0, g71_1] <;> rfl) ?_
       apply pops_or 5 75 80 [76, 77, 78, 79] (by simp only [upd_at, Nat.reduceEqDiff, if_true, if_false, e0_1, e0_26, e0_27, e0_28, dealPV, g69_0, g71_1] <;> rfl)
       ·skip
        intro g75_2 J34 hJ34
        simp only [List.take_succ_cons, List.take_zero]
        simp only [anyAt_cons, anyAt_nil] at hJ34
        refine pops_do rfl rfl (by simp only [upd_at, Nat.reduceEqDiff, if_true, if_false, e0_1, e0_26, e0_27, e0_28, dealPV, g69_0, g71_1, g75_2]) fun M hM => ?_
        simp only [pop, St.eval, constSlot, upd_at, Nat.reduceEqDiff, if_true, if_false, popFieldAddr, fieldOf, List.drop_succ_cons, List.drop_zero, List.getElem?_toArray, List.getElem?_cons_zero, List.getElem?_cons_succ, Tryd.underlying35, sz9, e0_1, e0_26, e0_27, e0_28, dealPV, g69_0, g71_1, g75_2]
        refine ⟨⟨_, rfl⟩, hM _ _ ?_⟩
        clear hM M
        refine pops_do rfl rfl (by simp only [upd_at, Nat.reduceEqDiff, if_true, if_false, e0_1, e0_26, e0_27, e0_28, dealPV, g69_0, g71_1, g75_2]) fun M hM => ?_
        simp only [pop, St.eval, constSlot, upd_at, Nat.reduceEqDiff, if_true, if_false, popLoad, loadK, isAggD, List.drop_zero, List.getElem?_toArray, List.getElem?_cons_zero, List.getElem?_cons_succ, Bool.false_eq_true, Tryd.underlying9, sz9, eq_self, true_and, and_true, e0_1, e0_26, e0_27, e0_28, dealPV, g69_0, g71_1, g75_2]
        refine hM _ _ ?_
        clear hM M
        refine pops_do rfl rfl (by simp only [upd_at, Nat.reduceEqDiff, if_true, if_false, e0_1, e0_26, e0_27, e0_28, dealPV, g69_0, g71_1, g75_2]) fun M hM => ?_
        simp only [pop, St.eval, constSlot, upd_at, Nat.reduceEqDiff, if_true, if_false, popCall, List.toList_toArray, List.map_cons, List.map_nil, svs, List.mapM_cons, List.mapM_nil, Option.bind_eq_bind, Option.bind_some, Option.pure_def, List.append_nil, List.cons_append, List.nil_append, str_size, e0_1, e0_26, e0_27, e0_28, dealPV, g69_0, g71_1, g75_2]
        refine PFun.use (isPath_fun W0 hm x.dst) fun h2 s2 => hM _ _ ?_
        replace s2 := Same.trans (Same.refl _) s2
        clear hM M
        refine pops_do rfl rfl (by simp only [upd_at, Nat.reduceEqDiff, if_true, if_false, e0_1, e0_26, e0_27, e0_28, dealPV, g69_0, g71_1, g75_2]) fun M hM => ?_
        simp only [pop, St.eval, constSlot, upd_at, Nat.reduceEqDiff, if_true, if_false, unK, e0_1, e0_26, e0_27, e0_28, dealPV, g69_0, g71_1, g75_2]
        refine hM _ _ ?_
        clear hM M
        refine pops_do rfl rfl (by simp only [upd_at, Nat.reduceEqDiff, if_true, if_false, e0_1, e0_26, e0_27, e0_28, dealPV, g69_0, g71_1, g75_2]) fun M hM => ?_
        simp only [pop, St.eval, constSlot, upd_at, Nat.reduceEqDiff, if_true, if_false, popIf, true_implies, false_implies, Bool.true_eq_false, Bool.false_eq_true, reduceCtorEq, true_and, and_true, e0_1, e0_26, e0_27, e0_28, dealPV, g69_0, g71_1, g75_2]
        refine hM _ _ ?_
        clear hM M
        exact pops_done (hJ34 _ _ s2 (wk_same (wk_any ((wk_any ((wk_any ((wk_any (Wk.refl _ _))))))))))
       ·skip
        intro g75_2 J34 hJ34
        simp only [List.take_succ_cons, List.take_zero]
        simp only [anyAt_cons, anyAt_nil] at hJ34
        refine pops_off (b := true) rfl rfl (by simp only [upd_at, Nat.reduceEqDiff, if_true, if_false, e0_1, e0_26, e0_27, e0_28, dealPV, g69_0, g71_1, g75_2]) (by decide) ?_
        refine pops_off (b := true) rfl rfl (by simp only [upd_at, Nat.reduceEqDiff, if_true, if_false, e0_1, e0_26, e0_27, e0_28, dealPV, g69_0, g71_1, g75_2]) (by decide) ?_
        refine pops_off (b := true) rfl rfl (by simp only [upd_at, Nat.reduceEqDiff, if_true, if_false, e0_1, e0_26, e0_27, e0_28, dealPV, g69_0, g71_1, g75_2]) (by decide) ?_
        refine pops_off (b := true) rfl rfl (by simp only [upd_at, Nat.reduceEqDiff, if_true, if_false, e0_1, e0_26, e0_27, e0_28, dealPV, g69_0, g71_1, g75_2]) (by decide) ?_
        refine pops_do rfl rfl (by simp only [upd_at, Nat.reduceEqDiff, if_true, if_false, e0_1, e0_26, e0_27, e0_28, dealPV, g69_0, g71_1, g75_2]) fun M hM => ?_
        simp only [pop, St.eval, constSlot, upd_at, Nat.reduceEqDiff, if_true, if_false, popIf, true_implies, false_implies, Bool.true_eq_false, Bool.false_eq_true, reduceCtorEq, true_and, and_true, e0_1, e0_26, e0_27, e0_28, dealPV, g69_0, g71_1, g75_2]
        refine hM _ _ ?_
        clear hM M
        exact pops_done (hJ34 _ _ (Same.refl _) (wk_same (wk_any ((wk_any ((wk_any ((wk_any (Wk.refl _ _))))))))))
       simp only [List.drop_succ_cons, List.drop_zero, anyAt_cons, anyAt_nil]
       intro hj34 sj34
       refine pops_do rfl rfl (by simp only [upd_at, Nat.reduceEqDiff, if_true, if_false, e0_1, e0_26, e0_27, e0_28, dealPV, g69_0, g71_1]) fun M hM => ?_
       simp only [pop, St.eval, constSlot, upd_at, Nat.reduceEqDiff, if_true, if_false, popIf, true_implies, false_implies, Bool.true_eq_false, Bool.false_eq_true, reduceCtorEq, true_and, and_true, e0_1, e0_26, e0_27, e0_28, dealPV, g69_0, g71_1]
       refine hM _ _ ?_
       clear hM M
       exact pops_done (hJ33 _ _ sj34 (wk_same (wk_any ((wk_any ((wk_any ((wk_any ((wk_any ((wk_any ((wk_any ((wk_any ((wk_any (Wk.refl _ _))))))))))))))))))))
      ·skip
       intro g71_1 J33 hJ33
       simp only [List.take_succ_cons, List.take_zero]
       simp only [anyAt_cons, anyAt_nil] at hJ33
       refine pops_off (b := false) rfl rfl (by simp only [upd_at, Nat.reduceEqDiff, if_true, if_false, e0_1, e0_26, e0_27, e0_28, dealPV, g69_0, g71_1]) (by decide) ?_
       refine pops_off (b := false) rfl rfl (by simp only [upd_at, Nat.reduceEqDiff, if_true, if_false, e0_1, e0_26, e0_27, e0_28, dealPV, g69_0, g71_1]) (by decide) ?_
       refine pops_off (b := false) rfl rfl (by simp only [upd_at, Nat.reduceEqDiff, if_true, if_false, e0_1, e0_26, e0_27, e0_28, dealPV, g69_0, g71_1]) (by decide) ?_
       refine pops_off (b := false) rfl rfl (by simp only [upd_at, Nat.reduceEqDiff, if_true, if_false, e0_1, e0_26, e0_27, e0_28, dealPV, g69_0, g71_1]) (by decide) ?_
       refine pops_off0 rfl rfl (by simp only [upd_at, Nat.reduceEqDiff, if_true, if_false, e0_1, e0_26, e0_27, e0_28, dealPV, g69_0, g71_1]) ?_
       refine pops_off0 rfl rfl (by simp only [upd_at, Nat.reduceEqDiff, if_true, if_false, e0_1, e0_26, e0_27, e0_28, dealPV, g69_0, g71_1]) ?_
       refine pops_off0 rfl rfl (by simp only [upd_at, Nat.reduceEqDiff, if_true, if_false, e0_1, e0_26, e0_27, e0_28, dealPV, g69_0, g71_1]) ?_
       refine pops_off0 rfl rfl (by simp only [upd_at, Nat.reduceEqDiff, if_true, if_false, e0_1, e0_26, e0_27, e0_28, dealPV, g69_0, g71_1]) ?_
       refine pops_off (b := false) rfl rfl (by simp only [upd_at, Nat.reduceEqDiff, if_true, if_false, e0_1, e0_26, e0_27, e0_28, dealPV, g69_0, g71_1]) (by decide) ?_
       refine pops_do rfl rfl (by simp only [upd_at, Nat.reduceEqDiff, if_true, if_false, e0_1, e0_26, e0_27, e0_28, dealPV, g69_0, g71_1]) fun M hM => ?_
       simp only [pop, St.eval, constSlot, upd_at, Nat.reduceEqDiff, if_true, if_false, popIf, true_implies, false_implies, Bool.true_eq_false, Bool.false_eq_true, reduceCtorEq, true_and, and_true, e0_1, e0_26, e0_27, e0_28, dealPV, g69_0, g71_1]
       refine hM _ _ ?_
       clear hM M
       exact pops_done (hJ33 _ _ (Same.refl _) (wk_same (wk_any ((wk_any ((wk_any ((wk_any ((wk_any ((wk_any ((wk_any ((wk_any ((wk_any (Wk.refl _ _))))))))))))))))))))
      simp only [List.drop_succ_cons, List.drop_zero, anyAt_cons, anyAt_nil]
      intro hj33 sj33
      refine pops_to rfl fun M hM => ?_
      simp only [pop, St.eval, constSlot, upd_at, Nat.reduceEqDiff, if_true, if_false, popIf, true_implies, false_implies, Bool.true_eq_false, Bool.false_eq_true, reduceCtorEq, true_and, and_true, e0_1, e0_26, e0_27, e0_28, dealPV, g69_0]
      refine hM _ _ ?_
      clear hM M
      exact pops_done (hJ32 _ _ sj33 (wk_same (wk_any ((wk_any ((wk_any ((wk_any ((wk_any ((wk_any ((wk_any ((wk_any ((wk_any ((wk_any ((wk_any ((wk_any (Wk.refl _ _))))))))))))))))))))))))))
     ·skip
      intro g69_0 J32 hJ32
      simp only [List.take_succ_cons, List.take_zero]
      simp only [anyAt_cons, anyAt_nil] at hJ32
      refine pops_off (b := true) rfl rfl (by simp only [upd_at, Nat.reduceEqDiff, if_true, if_false, e0_1, e0_26, e0_27, e0_28, dealPV, g69_0]) (by decide) ?_
      refine pops_off (b := true) rfl rfl (by simp only [upd_at, Nat.reduceEqDiff, if_true, if_false, e0_1, e0_26, e0_27, e0_28, dealPV, g69_0]) (by decide) ?_
      refine pops_off0 rfl rfl (by simp only [upd_at, Nat.reduceEqDiff, if_true, if_false, e0_1, e0_26, e0_27, e0_28, dealPV, g69_0]) ?_
      refine pops_off0 rfl rfl (by simp only [upd_at, Nat.reduceEqDiff, if_true, if_false, e0_1, e0_26, e0_27, e0_28, dealPV, g69_0]) ?_
      refine pops_off0 rfl rfl (by simp only [upd_at, Nat.reduceEqDiff, if_true, if_false, e0_1, e0_26, e0_27, e0_28, dealPV, g69_0]) ?_
      refine pops_off0 rfl rfl (by simp only [upd_at, Nat.reduceEqDiff, if_true, if_false, e0_1, e0_26, e0_27, e0_28, dealPV, g69_0]) ?_
      refine pops_off0 rfl rfl (by simp only [upd_at, Nat.reduceEqDiff, if_true, if_false, e0_1, e0_26, e0_27, e0_28, dealPV, g69_0]) ?_
      refine pops_off0 rfl rfl (by simp only [upd_at, Nat.reduceEqDiff, if_true, if_false, e0_1, e0_26, e0_27, e0_28, dealPV, g69_0]) ?_
      refine pops_off0 rfl rfl (by simp only [upd_at, Nat.reduceEqDiff, if_true, if_false, e0_1, e0_26, e0_27, e0_28, dealPV, g69_0]) ?_
      refine pops_off0 rfl rfl (by simp only [upd_at, Nat.reduceEqDiff, if_true, if_false, e0_1, e0_26, e0_27, e0_28, dealPV, g69_0]) ?_
      refine pops_off0 rfl rfl (by simp only [upd_at, Nat.reduceEqDiff, if_true, if_false, e0_1, e0_26, e0_27, e0_28, dealPV, g69_0]) ?_
      refine pops_off (b := true) rfl rfl (by simp only [upd_at, Nat.reduceEqDiff, if_true, if_false, e0_1, e0_26, e0_27, e0_28, dealPV, g69_0]) (by decide) ?_
      refine pops_to rfl fun M hM => ?_
      simp only [pop, St.eval, constSlot, upd_at, Nat.reduceEqDiff, if_true, if_false, popIf, true_implies, false_implies, Bool.true_eq_false, Bool.false_eq_true, reduceCtorEq, true_and, and_true, e0_1, e0_26, e0_27, e0_28, dealPV, g69_0]
      refine hM _ _ ?_
      clear hM M
      exact pops_done (hJ32 _ _ (Same.refl _) (wk_same (wk_any ((wk_any ((wk_any ((wk_any ((wk_any ((wk_any ((wk_any ((wk_any ((wk_any ((wk_any ((wk_any ((wk_any (Wk.refl _ _))))))))))))))))))))))))))
     simp only [List.drop_succ_cons, List.drop_zero, anyAt_cons, anyAt_nil]
     intro hj32 sj32
     replace sj32 := Same.trans sj31 sj32
     refine pops_mv (.inr rfl) rfl (by simp only [St.eval, upd_at, Nat.reduceEqDiff, if_true, if_false, e0_1, e0_26, e0_27, e0_28, dealPV] <;> rfl) ?_
     refine pops_done (hR30 _ ?_)
     clear hR30 R30
     try simp only [thenK, scopeK]
     refine hN29 _ ?_
     clear hN29 N29
     refine pwp_cond (by simp only [St.eval, upd_at, Nat.reduceEqDiff, if_true, if_false, e0_1, e0_26, e0_27, e0_28, dealPV] <;> rfl) (fun c59 => ?_) (fun c59 => ?_)
     ·skip
      rw [pathB_ref, pathB_ref] at c59
      have hv : actE x = 1 := by rw [actE, if_neg (Bool.eq_false_iff.1 h40), if_pos (show actC1 x = true from c59)]
      have hne : actE x ≠ 0 := by rw [hv]; decide
      have hact := actsE_hit hx0_1 hx hne
      refine pwp_then fun N35 hN35 => ?_
      refine pwp_reg fun R36 hR36 => ?_
      refine pops_mv (.inr rfl) rfl (by simp only [St.eval, constSlot] <;> rfl) ?_
      refine pops_done (hR36 _ ?_)
      clear hR36 R36
      try simp only [thenK, scopeK]
      refine hN35 _ ?_
      clear hN35 N35
      refine pwp_ret ?_
      simp only [thenK, blockK, scopeK, bodyK]
      clear hN15 N15 hN9 N9
      refine ⟨_, rfl, endFun sj32 ?_⟩
      try simp only [upd_at, Nat.reduceEqDiff, if_true, if_false, e0_1, e0_26, e0_27, e0_28, dealPV]
      all_goals
       rw [dealE_act hbig (by rw [hact]; exact hne), hact, hv]
     ·skip
      rw [pathB_ref, pathB_ref] at c59
      have h59 : actC1 x = false := c59
      refine pwp_then fun N37 hN37 => ?_
      refine pwp_reg fun R38 hR38 => ?_
      refine pops_mv (.inl rfl) rfl (by simp only [St.eval, upd_at, Nat.reduceEqDiff, if_true, if_false, e0_1, e0_26, e0_27, e0_28, dealPV] <;> rfl) ?_
      refine pops_to rfl fun M hM => ?_
      simp only [pop, St.eval, constSlot, upd_at, Nat.reduceEqDiff, if_true, if_false, unK, e0_1, e0_26, e0_27, e0_28, dealPV]
      refine hM _ _ ?_
      clear hM M
      refine pops_mv (.inl rfl) rfl (by simp only [St.eval, upd_at, Nat.reduceEqDiff, if_true, if_false, e0_1, e0_26, e0_27, e0_28, dealPV] <;> rfl) ?_
      apply pops_and0 4 86 90 [87, 88, 89] (by simp only [upd_at, Nat.reduceEqDiff, if_true, if_false, e0_1, e0_26, e0_27, e0_28, dealPV] <;> rfl)
      ·skip
       intro g86_0 J39 hJ39
       simp only [List.take_succ_cons, List.take_zero]
       simp only [anyAt_cons, anyAt_nil] at hJ39
       refine pops_do rfl rfl (by simp only [upd_at, Nat.reduceEqDiff, if_true, if_false, e0_1, e0_26, e0_27, e0_28, dealPV, g86_0]) fun M hM => ?_
       simp only [pop, St.eval, constSlot, upd_at, Nat.reduceEqDiff, if_true, if_false, popFieldAddr, fieldOf, List.drop_succ_cons, List.drop_zero, List.getElem?_toArray, List.getElem?_cons_zero, List.getElem?_cons_succ, Tryd.underlying35, sz9, e0_1, e0_26, e0_27, e0_28, dealPV, g86_0]
       refine ⟨⟨_, rfl⟩, hM _ _ ?_⟩
       clear hM M
       refine pops_do rfl rfl (by simp only [upd_at, Nat.reduceEqDiff, if_true, if_false, e0_1, e0_26, e0_27, e0_28, dealPV, g86_0]) fun M hM => ?_
       simp only [pop, St.eval, constSlot, upd_at, Nat.reduceEqDiff, if_true, if_false, popLoad, loadK, isAggD, List.drop_zero, List.getElem?_toArray, List.getElem?_cons_zero, List.getElem?_cons_succ, Bool.false_eq_true, Tryd.underlying9, sz9, eq_self, true_and, and_true, e0_1, e0_26, e0_27, e0_28, dealPV, g86_0]
       refine hM _ _ ?_
       clear hM M
       refine pops_do rfl rfl (by simp only [upd_at, Nat.reduceEqDiff, if_true, if_false, e0_1, e0_26, e0_27, e0_28, dealPV, g86_0]) fun M hM => ?_
       simp only [pop, St.eval, constSlot, upd_at, Nat.reduceEqDiff, if_true, if_false, popBin, binK, intK, strK, eqK, Tryd.underlying9, isPtr, eq_self, true_and, and_true, str_list, str_size, str_app, str_cut, str_get, e0_1, e0_26, e0_27, e0_28, dealPV, g86_0]
       refine hM _ _ ?_
       clear hM M
       refine pops_to rfl fun M hM => ?_
       simp only [pop, St.eval, constSlot, upd_at, Nat.reduceEqDiff, if_true, if_false, popIf, true_implies, false_implies, Bool.true_eq_false, Bool.false_eq_true, reduceCtorEq, true_and, and_true, e0_1, e0_26, e0_27, e0_28, dealPV, g86_0]
       refine hM _ _ ?_
       clear hM M
       exact pops_done (hJ39 _ (wk_same (wk_any ((wk_any ((wk_any (Wk.refl _ _))))))))
      ·skip
       intro g86_0 J39 hJ39
       simp only [List.take_succ_cons, List.take_zero]
       simp only [anyAt_cons, anyAt_nil] at hJ39
       refine pops_off (b := false) rfl rfl (by simp only [upd_at, Nat.reduceEqDiff, if_true, if_false, e0_1, e0_26, e0_27, e0_28, dealPV, g86_0]) (by decide) ?_
       refine pops_off (b := false) rfl rfl (by simp only [upd_at, Nat.reduceEqDiff, if_true, if_false, e0_1, e0_26, e0_27, e0_28, dealPV, g86_0]) (by decide) ?_
       refine pops_off (b := false) rfl rfl (by simp only [upd_at, Nat.reduceEqDiff, if_true, if_false, e0_1, e0_26, e0_27, e0_28, dealPV, g86_0]) (by decide) ?_
       refine pops_to rfl fun M hM => ?_
       simp only [pop, St.eval, constSlot, upd_at, Nat.reduceEqDiff, if_true, if_false, popIf, true_implies, false_implies, Bool.true_eq_false, Bool.false_eq_true, reduceCtorEq, true_and, and_true, e0_1, e0_26, e0_27, e0_28, dealPV, g86_0]
       refine hM _ _ ?_
       clear hM M
       exact pops_done (hJ39 _ (wk_same (wk_any ((wk_any ((wk_any (Wk.refl _ _))))))))
      simp only [List.drop_succ_cons, List.drop_zero, anyAt_cons, anyAt_nil]
      refine pops_mv (.inl rfl) rfl (by simp only [St.eval, upd_at, Nat.reduceEqDiff, if_true, if_false, e0_1, e0_26, e0_27, e0_28, dealPV] <;> rfl) ?_
      apply pops_or0 14 91 105 [92, 93, 94, 95, 96, 97, 98, 99, 100, 101, 102, 103, 104] (by simp only [upd_at, Nat.reduceEqDiff, if_true, if_false, e0_1, e0_26, e0_27, e0_28, dealPV] <;> rfl)
      ·skip
       intro g91_0 J40 hJ40
       simp only [List.take_succ_cons, List.take_zero]
       simp only [anyAt_cons, anyAt_nil] at hJ40
       refine pops_do rfl rfl (by simp only [upd_at, Nat.reduceEqDiff, if_true, if_false, e0_1, e0_26, e0_27, e0_28, dealPV, g91_0]) fun M hM => ?_
       simp only [pop, St.eval, constSlot, upd_at, Nat.reduceEqDiff, if_true, if_false, popFieldAddr, fieldOf, List.drop_succ_cons, List.drop_zero, List.getElem?_toArray, List.getElem?_cons_zero, List.getElem?_cons_succ, Tryd.underlying35, sz3, e0_1, e0_26, e0_27, e0_28, dealPV, g91_0]
       refine ⟨⟨_, rfl⟩, hM _ _ ?_⟩
       clear hM M
       refine pops_do rfl rfl (by simp only [upd_at, Nat.reduceEqDiff, if_true, if_false, e0_1, e0_26, e0_27, e0_28, dealPV, g91_0]) fun M hM => ?_
       simp only [pop, St.eval, constSlot, upd_at, Nat.reduceEqDiff, if_true, if_false, popLoad, loadK, isAggD, List.drop_zero, List.getElem?_toArray, List.getElem?_cons_zero, List.getElem?_cons_succ, Bool.false_eq_true, Tryd.underlying3, sz3, eq_self, true_and, and_true, e0_1, e0_26, e0_27, e0_28, dealPV, g91_0]
       refine hM _ _ ?_
       clear hM M
       refine pops_do rfl rfl (by simp only [upd_at, Nat.reduceEqDiff, if_true, if_false, e0_1, e0_26, e0_27, e0_28, dealPV, g91_0]) fun M hM => ?_
       simp only [pop, St.eval, constSlot, upd_at, Nat.reduceEqDiff, if_true, if_false, popBin, binK, intK, strK, eqK, Tryd.underlying3, isPtr, eq_self, true_and, and_true, e0_1, e0_26, e0_27, e0_28, dealPV, g91_0]
       refine hM _ _ ?_
       clear hM M
       refine pops_mvg (.inl rfl) rfl rfl (by simp only [upd_at, Nat.reduceEqDiff, if_true, if_false, e0_1, e0_26, e0_27, e0_28, dealPV, g91_0]) (by simp only [St.eval, upd_at, Nat.reduceEqDiff, if_true, if_false, e0_1, e0_26, e0_27, e0_28, dealPV, g91_0] <;> rfl) ?_
       apply pops_and0 9 95 104 [96, 97, 98, 99, 100, 101, 102, 103] (by simp only [upd_at, Nat.reduceEqDiff, if_true, if_false, e0_1, e0_26, e0_27, e0_28, dealPV, g91_0] <;> rfl)
       ·skip
        intro g95_1 J41 hJ41
        simp only [List.take_succ_cons, List.take_zero]
        simp only [anyAt_cons, anyAt_nil] at hJ41
        refine pops_do rfl rfl (by simp only [upd_at, Nat.reduceEqDiff, if_true, if_false, e0_1, e0_26, e0_27, e0_28, dealPV, g91_0, g95_1]) fun M hM => ?_
        simp only [pop, St.eval, constSlot, upd_at, Nat.reduceEqDiff, if_true, if_false, popFieldAddr, fieldOf, List.drop_succ_cons, List.drop_zero, List.getElem?_toArray, List.getElem?_cons_zero, List.getElem?_cons_succ, Tryd.underlying35, sz3, e0_1, e0_26, e0_27, e0_28, dealPV, g91_0, g95_1]
        refine ⟨⟨_, rfl⟩, hM _ _ ?_⟩
        clear hM M
        refine pops_do rfl rfl (by simp only [upd_at, Nat.reduceEqDiff, if_true, if_false, e0_1, e0_26, e0_27, e0_28, dealPV, g91_0, g95_1]) fun M hM => ?_
        simp only [pop, St.eval, constSlot, upd_at, Nat.reduceEqDiff, if_true, if_false, popLoad, loadK, isAggD, List.drop_zero, List.getElem?_toArray, List.getElem?_cons_zero, List.getElem?_cons_succ, Bool.false_eq_true, Tryd.underlying3, sz3, eq_self, true_and, and_true, e0_1, e0_26, e0_27, e0_28, dealPV, g91_0, g95_1]
        refine hM _ _ ?_
        clear hM M
        refine pops_do rfl rfl (by simp only [upd_at, Nat.reduceEqDiff, if_true, if_false, e0_1, e0_26, e0_27, e0_28, dealPV, g91_0, g95_1]) fun M hM => ?_
        simp only [pop, St.eval, constSlot, upd_at, Nat.reduceEqDiff, if_true, if_false, popBin, binK, intK, strK, eqK, Tryd.underlying3, isPtr, eq_self, true_and, and_true, e0_1, e0_26, e0_27, e0_28, dealPV, g91_0, g95_1]
        refine hM _ _ ?_
        clear hM M
        refine pops_mvg (.inl rfl) rfl rfl (by simp only [upd_at, Nat.reduceEqDiff, if_true, if_false, e0_1, e0_26, e0_27, e0_28, dealPV, g91_0, g95_1]) (by simp only [St.eval, upd_at, Nat.reduceEqDiff, if_true, if_false, e0_1, e0_26, e0_27, e0_28, dealPV, g91_0, g95_1] <;> rfl) ?_
        apply pops_or0 4 99 103 [100, 101, 102] (by simp only [upd_at, Nat.reduceEqDiff, if_true, if_false, e0_1, e0_26, e0_27, e0_28, dealPV, g91_0, g95_1] <;> rfl)
        ·skip
         intro g99_2 J42 hJ42
         simp only [List.take_succ_cons, List.take_zero]
         simp only [anyAt_cons, anyAt_nil] at hJ42
         refine pops_do rfl rfl (by simp only [upd_at, Nat.reduceEqDiff, if_true, if_false, e0_1, e0_26, e0_27, e0_28, dealPV, g91_0, g95_1, g99_2]) fun M hM => ?_
         simp only [pop, St.eval, constSlot, upd_at, Nat.reduceEqDiff, if_true, if_false, popFieldAddr, fieldOf, List.drop_succ_cons, List.drop_zero, List.getElem?_toArray, List.getElem?_cons_zero, List.getElem?_cons_succ, Tryd.underlying35, sz3, e0_1, e0_26, e0_27, e0_28, dealPV, g91_0, g95_1, g99_2]
         refine ⟨⟨_, rfl⟩, hM _ _ ?_⟩
         clear hM M
         refine pops_do rfl rfl (by simp only [upd_at, Nat.reduceEqDiff, if_true, if_false, e0_1, e0_26, e0_27, e0_28, dealPV, g91_0, g95_1, g99_2]) fun M hM => ?_
         simp only [pop, St.eval, constSlot, upd_at, Nat.reduceEqDiff, if_true, if_false, popLoad, loadK, isAggD, List.drop_zero, List.getElem?_toArray, List.getElem?_cons_zero, List.getElem?_cons_succ, Bool.false_eq_true, Tryd.underlying3, sz3, eq_self, true_and, and_true, e0_1, e0_26, e0_27, e0_28, dealPV, g91_0, g95_1, g99_2]
         refine hM _ _ ?_
         clear hM M
         refine pops_do rfl rfl (by simp only [upd_at, Nat.reduceEqDiff, if_true, if_false, e0_1, e0_26, e0_27, e0_28, dealPV, g91_0, g95_1, g99_2]) fun M hM => ?_
         simp only [pop, St.eval, constSlot, upd_at, Nat.reduceEqDiff, if_true, if_false, popBin, binK, intK, strK, eqK, Tryd.underlying3, isPtr, eq_self, true_and, and_true, e0_1, e0_26, e0_27, e0_28, dealPV, g91_0, g95_1, g99_2]
         refine hM _ _ ?_
         clear hM M
         refine pops_do rfl rfl (by simp only [upd_at, Nat.reduceEqDiff, if_true, if_false, e0_1, e0_26, e0_27, e0_28, dealPV, g91_0, g95_1, g99_2]) fun M hM => ?_
         simp only [pop, St.eval, constSlot, upd_at, Nat.reduceEqDiff, if_true, if_false, popIf, true_implies, false_implies, Bool.true_eq_false, Bool.false_eq_true, reduceCtorEq, true_and, and_true, e0_1, e0_26, e0_27, e0_28, dealPV, g91_0, g95_1, g99_2]
         refine hM _ _ ?_
         clear hM M
         exact pops_done (hJ42 _ (wk_same (wk_any ((wk_any ((wk_any (Wk.refl _ _))))))))
        ·skip
         intro g99_2 J42 hJ42
         simp only [List.take_succ_cons, List.take_zero]
         simp only [anyAt_cons, anyAt_nil] at hJ42
         refine pops_off (b := true) rfl rfl (by simp only [upd_at, Nat.reduceEqDiff, if_true, if_false, e0_1, e0_26, e0_27, e0_28, dealPV, g91_0, g95_1, g99_2]) (by decide) ?_
         refine pops_off (b := true) rfl rfl (by simp only [upd_at, Nat.reduceEqDiff, if_true, if_false, e0_1, e0_26, e0_27, e0_28, dealPV, g91_0, g95_1, g99_2]) (by decide) ?_
         refine pops_off (b := true) rfl rfl (by simp only [upd_at, Nat.reduceEqDiff, if_true, if_false, e0_1, e0_26, e0_27, e0_28, dealPV, g91_0, g95_1, g99_2]) (by decide) ?_
         refine pops_do rfl rfl (by simp only [upd_at, Nat.reduceEqDiff, if_true, if_false, e0_1, e0_26, e0_27, e0_28, dealPV, g91_0, g95_1, g99_2]) fun M hM => ?_
         simp only [pop, St.eval, constSlot, upd_at, Nat.reduceEqDiff, if_true, if_false, popIf, true_implies, false_implies, Bool.true_eq_false, Bool.false_eq_true, reduceCtorEq, true_and, and_true, e0_1, e0_26, e0_27, e0_28, dealPV, g91_0, g95_1, g99_2]
         refine hM _ _ ?_
         clear hM M
         exact pops_done (hJ42 _ (wk_same (wk_any ((wk_any ((wk_any (Wk.refl _ _))))))))
        simp only [List.drop_succ_cons, List.drop_zero, anyAt_cons, anyAt_nil]
        refine pops_do rfl rfl (by simp only [upd_at, Nat.reduceEqDiff, if_true, if_false, e0_1, e0_26, e0_27, e0_28, dealPV, g91_0, g95_1]) fun M hM => ?_
        simp only [pop, St.eval, constSlot, upd_at, Nat.reduceEqDiff, if_true, if_false, popIf, true_implies, false_implies, Bool.true_eq_false, Bool.false_eq_true, reduceCtorEq, true_and, and_true, e0_1, e0_26, e0_27, e0_28, dealPV, g91_0, g95_1]
        refine hM _ _ ?_
        clear hM M
        exact pops_done (hJ41 _ (wk_same (wk_any ((wk_any ((wk_any ((wk_any ((wk_any ((wk_any ((wk_any ((wk_any (Wk.refl _ _))))))))))))))))))
       ·skip
        intro g95_1 J41 hJ41
        simp only [List.take_succ_cons, List.take_zero]
        simp only [anyAt_cons, anyAt_nil] at hJ41
        refine pops_off (b := false) rfl rfl (by simp only [upd_at, Nat.reduceEqDiff, if_true, if_false, e0_1, e0_26, e0_27, e0_28, dealPV, g91_0, g95_1]) (by decide) ?_
        refine pops_off (b := false) rfl rfl (by simp only [upd_at, Nat.reduceEqDiff, if_true, if_false, e0_1, e0_26, e0_27, e0_28, dealPV, g91_0, g95_1]) (by decide) ?_
        refine pops_off (b := false) rfl rfl (by simp only [upd_at, Nat.reduceEqDiff, if_true, if_false, e0_1, e0_26, e0_27, e0_28, dealPV, g91_0, g95_1]) (by decide) ?_
        refine pops_off (b := false) rfl rfl (by simp only [upd_at, Nat.reduceEqDiff, if_true, if_false, e0_1, e0_26, e0_27, e0_28, dealPV, g91_0, g95_1]) (by decide) ?_
        refine pops_off0 rfl rfl (by simp only [upd_at, Nat.reduceEqDiff, if_true, if_false, e0_1, e0_26, e0_27, e0_28, dealPV, g91_0, g95_1]) ?_
        refine pops_off0 rfl rfl (by simp only [upd_at, Nat.reduceEqDiff, if_true, if_false, e0_1, e0_26, e0_27, e0_28, dealPV, g91_0, g95_1]) ?_
        refine pops_off0 rfl rfl (by simp only [upd_at, Nat.reduceEqDiff, if_true, if_false, e0_1, e0_26, e0_27, e0_28, dealPV, g91_0, g95_1]) ?_
        refine pops_off (b := false) rfl rfl (by simp only [upd_at, Nat.reduceEqDiff, if_true, if_false, e0_1, e0_26, e0_27, e0_28, dealPV, g91_0, g95_1]) (by decide) ?_
        refine pops_do rfl rfl (by simp only [upd_at, Nat.reduceEqDiff, if_true, if_false, e0_1, e0_26, e0_27, e0_28, dealPV, g91_0, g95_1]) fun M hM => ?_
        simp only [pop, St.eval, constSlot, upd_at, Nat.reduceEqDiff, if_true, if_false, popIf, true_implies, false_implies, Bool.true_eq_false, Bool.false_eq_true, reduceCtorEq, true_and, and_true, e0_1, e0_26, e0_27, e0_28, dealPV, g91_0, g95_1]
        refine hM _ _ ?_
        clear hM M
        exact pops_done (hJ41 _ (wk_same (wk_any ((wk_any ((wk_any ((wk_any ((wk_any ((wk_any ((wk_any ((wk_any (Wk.refl _ _))))))))))))))))))
       simp only [List.drop_succ_cons, List.drop_zero, anyAt_cons, anyAt_nil]
       refine pops_to rfl fun M hM => ?_
       simp only [pop, St.eval, constSlot, upd_at, Nat.reduceEqDiff, if_true, if_false, popIf, true_implies, false_implies, Bool.true_eq_false, Bool.false_eq_true, reduceCtorEq, true_and, and_true, e0_1, e0_26, e0_27, e0_28, dealPV, g91_0]
       refine hM _ _ ?_
       clear hM M
       exact pops_done (hJ40 _ (wk_same (wk_any ((wk_any ((wk_any ((wk_any ((wk_any ((wk_any ((wk_any ((wk_any ((wk_any ((wk_any ((wk_any ((wk_any ((wk_any (Wk.refl _ _))))))))))))))))))))))))))))
      ·skip
       intro g91_0 J40 hJ40
       simp only [List.take_succ_cons, List.take_zero]
       simp only [anyAt_cons, anyAt_nil] at hJ40
       refine pops_off (b := true) rfl rfl (by simp only [upd_at, Nat.reduceEqDiff, if_true, if_false, e0_1, e0_26, e0_27, e0_28, dealPV, g91_0]) (by decide) ?_
       refine pops_off (b := true) rfl rfl (by simp only [upd_at, Nat.reduceEqDiff, if_true, if_false, e0_1, e0_26, e0_27, e0_28, dealPV, g91_0]) (by decide) ?_
       refine pops_off (b := true) rfl rfl (by simp only [upd_at, Nat.reduceEqDiff, if_true, if_false, e0_1, e0_26, e0_27, e0_28, dealPV, g91_0]) (by decide) ?_
       refine pops_off (b := true) rfl rfl (by simp only [upd_at, Nat.reduceEqDiff, if_true, if_false, e0_1, e0_26, e0_27, e0_28, dealPV, g91_0]) (by decide) ?_
       refine pops_off0 rfl rfl (by simp only [upd_at, Nat.reduceEqDiff, if_true, if_false, e0_1, e0_26, e0_27, e0_28, dealPV, g91_0]) ?_
       refine pops_off0 rfl rfl (by simp only [upd_at, Nat.reduceEqDiff, if_true, if_false, e0_1, e0_26, e0_27, e0_28, dealPV, g91_0]) ?_
       refine pops_off0 rfl rfl (by simp only [upd_at, Nat.reduceEqDiff, if_true, if_false, e0_1, e0_26, e0_27, e0_28, dealPV, g91_0]) ?_
       refine pops_off0 rfl rfl (by simp only [upd_at, Nat.reduceEqDiff, if_true, if_false, e0_1, e0_26, e0_27, e0_28, dealPV, g91_0]) ?_
       refine pops_off0 rfl rfl (by simp only [upd_at, Nat.reduceEqDiff, if_true, if_false, e0_1, e0_26, e0_27, e0_28, dealPV, g91_0]) ?_
       refine pops_off0 rfl rfl (by simp only [upd_at, Nat.reduceEqDiff, if_true, if_false, e0_1, e0_26, e0_27, e0_28, dealPV, g91_0]) ?_
       refine pops_off0 rfl rfl (by simp only [upd_at, Nat.reduceEqDiff, if_true, if_false, e0_1, e0_26, e0_27, e0_28, dealPV, g91_0]) ?_
       refine pops_off0 rfl rfl (by simp only [upd_at, Nat.reduceEqDiff, if_true, if_false, e0_1, e0_26, e0_27, e0_28, dealPV, g91_0]) ?_
       refine pops_off (b := true) rfl rfl (by simp only [upd_at, Nat.reduceEqDiff, if_true, if_false, e0_1, e0_26, e0_27, e0_28, dealPV, g91_0]) (by decide) ?_
       refine pops_to rfl fun M hM => ?_
       simp only [pop, St.eval, constSlot, upd_at, Nat.reduceEqDiff, if_true, if_false, popIf, true_implies, false_implies, Bool.true_eq_false, Bool.false_eq_true, reduceCtorEq, true_and, and_true, e0_1, e0_26, e0_27, e0_28, dealPV, g91_0]
       refine hM _ _ ?_
       clear hM M
       exact pops_done (hJ40 _ (wk_same (wk_any ((wk_any ((wk_any ((wk_any ((wk_any ((wk_any ((wk_any ((wk_any ((wk_any ((wk_any ((wk_any ((wk_any ((wk_any (Wk.refl _ _))))))))))))))))))))))))))))
      simp only [List.drop_succ_cons, List.drop_zero, anyAt_cons, anyAt_nil]
      refine pops_mv (.inr rfl) rfl (by simp only [St.eval, upd_at, Nat.reduceEqDiff, if_true, if_false, e0_1, e0_26, e0_27, e0_28, dealPV] <;> rfl) ?_
      refine pops_done (hR38 _ ?_)
      clear hR38 R38
      try simp only [thenK, scopeK]
      refine hN37 _ ?_
      clear hN37 N37
      refine pwp_cond (by simp only [St.eval, upd_at, Nat.reduceEqDiff, if_true, if_false, e0_1, e0_26, e0_27, e0_28, dealPV] <;> rfl) (fun c83 => ?_) (fun c83 => ?_)
      ·skip
       have hv : actE x = 6 := by rw [actE, if_neg (Bool.eq_false_iff.1 h40), if_neg (Bool.eq_false_iff.1 h59), if_pos (show actC6 x = true from c83)]
       have hne : actE x ≠ 0 := by rw [hv]; decide
       have hact := actsE_hit hx0_1 hx hne
       refine pwp_then fun N43 hN43 => ?_
       refine pwp_reg fun R44 hR44 => ?_
       refine pops_mv (.inr rfl) rfl (by simp only [St.eval, constSlot] <;> rfl) ?_
       refine pops_done (hR44 _ ?_)
       clear hR44 R44
       try simp only [thenK, scopeK]
       refine hN43 _ ?_
       clear hN43 N43
       refine pwp_ret ?_
       simp only [thenK, blockK, scopeK, bodyK]
       clear hN15 N15 hN9 N9
       refine ⟨_, rfl, endFun sj32 ?_⟩
       try simp only [upd_at, Nat.reduceEqDiff, if_true, if_false, e0_1, e0_26, e0_27, e0_28, dealPV]
       all_goals
        rw [dealE_act hbig (by rw [hact]; exact hne), hact, hv]
      ·skip
       have h83 : actC6 x = false := c83
       refine pwp_then fun N45 hN45 => ?_
       refine pwp_reg fun R46 hR46 => ?_
       refine pops_to rfl fun M hM => ?_
       simp only [pop, St.eval, constSlot, upd_at, Nat.reduceEqDiff, if_true, if_false, popFieldAddr, fieldOf, List.drop_succ_cons, List.drop_zero, List.getElem?_toArray, List.getElem?_cons_zero, List.getElem?_cons_succ, Tryd.underlying35, sz3, e0_1, e0_26, e0_27, e0_28, dealPV]
       refine ⟨⟨_, rfl⟩, hM _ _ ?_⟩
       clear hM M
       refine pops_to rfl fun M hM => ?_
       simp only [pop, St.eval, constSlot, upd_at, Nat.reduceEqDiff, if_true, if_false, popLoad, loadK, isAggD, List.drop_zero, List.getElem?_toArray, List.getElem?_cons_zero, List.getElem?_cons_succ, Bool.false_eq_true, Tryd.underlying3, sz3, eq_self, true_and, and_true, e0_1, e0_26, e0_27, e0_28, dealPV]
       refine hM _ _ ?_
       clear hM M
       refine pops_to rfl fun M hM => ?_
       simp only [pop, St.eval, constSlot, upd_at, Nat.reduceEqDiff, if_true, if_false, popBin, binK, intK, strK, eqK, eq_self, true_and, and_true, e0_1, e0_26, e0_27, e0_28, dealPV]
       refine hM _ _ ?_
       clear hM M
       refine pops_mv (.inl rfl) rfl (by simp only [St.eval, upd_at, Nat.reduceEqDiff, if_true, if_false, e0_1, e0_26, e0_27, e0_28, dealPV] <;> rfl) ?_
       apply pops_or0 4 110 114 [111, 112, 113] (by simp only [upd_at, Nat.reduceEqDiff, if_true, if_false, e0_1, e0_26, e0_27, e0_28, dealPV] <;> rfl)
       ·skip
        intro g110_0 J47 hJ47
        simp only [List.take_succ_cons, List.take_zero]
        simp only [anyAt_cons, anyAt_nil] at hJ47
        refine pops_do rfl rfl (by simp only [upd_at, Nat.reduceEqDiff, if_true, if_false, e0_1, e0_26, e0_27, e0_28, dealPV, g110_0]) fun M hM => ?_
        simp only [pop, St.eval, constSlot, upd_at, Nat.reduceEqDiff, if_true, if_false, popFieldAddr, fieldOf, List.drop_succ_cons, List.drop_zero, List.getElem?_toArray, List.getElem?_cons_zero, List.getElem?_cons_succ, Tryd.underlying35, sz3, e0_1, e0_26, e0_27, e0_28, dealPV, g110_0]
        refine ⟨⟨_, rfl⟩, hM _ _ ?_⟩
        clear hM M
        refine pops_do rfl rfl (by simp only [upd_at, Nat.reduceEqDiff, if_true, if_false, e0_1, e0_26, e0_27, e0_28, dealPV, g110_0]) fun M hM => ?_
        simp only [pop, St.eval, constSlot, upd_at, Nat.reduceEqDiff, if_true, if_false, popLoad, loadK, isAggD, List.drop_zero, List.getElem?_toArray, List.getElem?_cons_zero, List.getElem?_cons_succ, Bool.false_eq_true, Tryd.underlying3, sz3, eq_self, true_and, and_true, e0_1, e0_26, e0_27, e0_28, dealPV, g110_0]
        refine hM _ _ ?_
        clear hM M
        refine pops_do rfl rfl (by simp only [upd_at, Nat.reduceEqDiff, if_true, if_false, e0_1, e0_26, e0_27, e0_28, dealPV, g110_0]) fun M hM => ?_
        simp only [pop, St.eval, constSlot, upd_at, Nat.reduceEqDiff, if_true, if_false, popBin, binK, intK, strK, eqK, eq_self, true_and, and_true, e0_1, e0_26, e0_27, e0_28, dealPV, g110_0]
        refine hM _ _ ?_
        clear hM M
        refine pops_to rfl fun M hM => ?_
        simp only [pop, St.eval, constSlot, upd_at, Nat.reduceEqDiff, if_true, if_false, popIf, true_implies, false_implies, Bool.true_eq_false, Bool.false_eq_true, reduceCtorEq, true_and, and_true, e0_1, e0_26, e0_27, e0_28, dealPV, g110_0]
        refine hM _ _ ?_
        clear hM M
        exact pops_done (hJ47 _ (wk_same (wk_any ((wk_any ((wk_any (Wk.refl _ _))))))))
       ·skip
        intro g110_0 J47 hJ47
        simp only [List.take_succ_cons, List.take_zero]
        simp only [anyAt_cons, anyAt_nil] at hJ47
        refine pops_off (b := true) rfl rfl (by simp only [upd_at, Nat.reduceEqDiff, if_true, if_false, e0_1, e0_26, e0_27, e0_28, dealPV, g110_0]) (by decide) ?_
        refine pops_off (b := true) rfl rfl (by simp only [upd_at, Nat.reduceEqDiff, if_true, if_false, e0_1, e0_26, e0_27, e0_28, dealPV, g110_0]) (by decide) ?_
        refine pops_off (b := true) rfl rfl (by simp only [upd_at, Nat.reduceEqDiff, if_true, if_false, e0_1, e0_26, e0_27, e0_28, dealPV, g110_0]) (by decide) ?_
        refine pops_to rfl fun M hM => ?_
        simp only [pop, St.eval, constSlot, upd_at, Nat.reduceEqDiff, if_true, if_false, popIf, true_implies, false_implies, Bool.true_eq_false, Bool.false_eq_true, reduceCtorEq, true_and, and_true, e0_1, e0_26, e0_27, e0_28, dealPV, g110_0]
        refine hM _ _ ?_
        clear hM M
        exact pops_done (hJ47 _ (wk_same (wk_any ((wk_any ((wk_any (Wk.refl _ _))))))))
       simp only [List.drop_succ_cons, List.drop_zero, anyAt_cons, anyAt_nil]
       refine pops_mv (.inr rfl) rfl (by simp only [St.eval, upd_at, Nat.reduceEqDiff, if_true, if_false, e0_1, e0_26, e0_27, e0_28, dealPV] <;> rfl) ?_
       refine pops_done (hR46 _ ?_)
       clear hR46 R46
       try simp only [thenK, scopeK]
       refine hN45 _ ?_
       clear hN45 N45
       refine pwp_cond (by simp only [St.eval, upd_at, Nat.reduceEqDiff, if_true, if_false, e0_1, e0_26, e0_27, e0_28, dealPV] <;> rfl) (fun c106 => ?_) (fun c106 => ?_)
       ·skip
        have hv : actE x = 7 := by rw [actE, if_neg (Bool.eq_false_iff.1 h40), if_neg (Bool.eq_false_iff.1 h59), if_neg (Bool.eq_false_iff.1 h83), if_pos (show actC7 x = true from c106)]
        have hne : actE x ≠ 0 := by rw [hv]; decide
        have hact := actsE_hit hx0_1 hx hne
        refine pwp_then fun N48 hN48 => ?_
        refine pwp_reg fun R49 hR49 => ?_
        refine pops_mv (.inr rfl) rfl (by simp only [St.eval, constSlot] <;> rfl) ?_
        refine pops_done (hR49 _ ?_)
        clear hR49 R49
        try simp only [thenK, scopeK]
        refine hN48 _ ?_
        clear hN48 N48
        refine pwp_ret ?_
        simp only [thenK, blockK, scopeK, bodyK]
        clear hN15 N15 hN9 N9
        refine ⟨_, rfl, endFun sj32 ?_⟩
        try simp only [upd_at, Nat.reduceEqDiff, if_true, if_false, e0_1, e0_26, e0_27, e0_28, dealPV]
        all_goals
         rw [dealE_act hbig (by rw [hact]; exact hne), hact, hv]
       ·skip
        have he0 : actE x = 0 := by rw [actE, if_neg (Bool.eq_false_iff.1 h40), if_neg (Bool.eq_false_iff.1 h59), if_neg (Bool.eq_false_iff.1 h83), if_neg (Bool.eq_false_iff.1 (show actC7 x = false from c106))]
        refine pwp_skip ?_
        try simp only [blockK, thenK, scopeK]
        try simp only [blockK, thenK, scopeK]
        try simp only [thenK, scopeK]
        refine hN15 _ ?_
        clear hN15 N15
        refine pwp_reg fun R50 hR50 => ?_
        refine pops_to rfl fun M hM => ?_
        simp only [pop, St.eval, constSlot, upd_at, Nat.reduceEqDiff, if_true, if_false, popBin, binK, intK, strK, eqK, eq_self, true_and, and_true, e0_1, e0_26, e0_27, e0_28, dealPV]
        refine hM _ _ ?_
        clear hM M
        refine pops_mv (.inl rfl) rfl (by simp only [St.eval, upd_at, Nat.reduceEqDiff, if_true, if_false, e0_1, e0_26, e0_27, e0_28, dealPV] <;> rfl) ?_
        refine pops_done (hR50 _ ?_)
        clear hR50 R50
        try simp only [thenK, scopeK]
        exact ⟨_, by omega, _, .refl _ _, i + 1, rfl, by omega, take_next hx0_1 hx he0, sj32, by simp only [upd_at, Nat.reduceEqDiff, if_true, if_false, e0_1, e0_26, e0_27, e0_28, dealPV], by simp only [upd_at, Nat.reduceEqDiff, if_true, if_false, e0_1, e0_26, e0_27, e0_28, dealPV], by simp only [upd_at, Nat.reduceEqDiff, if_true, if_false, e0_1, e0_26, e0_27, e0_28, dealPV], by simp only [upd_at, Nat.reduceEqDiff, if_true, if_false, e0_28]; rw [wrap_succ (by omega)]⟩
   ·skip
    have hi := of_decide_eq_false c29
    have hacts : actsE d.acts = 0 := actsE_none (by rw [List.take_of_length_le (by omega)] at hx0_1; exact hx0_1)
    refine pwp_exit ?_
    try simp only [thenK, blockK, scopeK, if_true, Nat.reduceEqDiff, if_false]
    clear hN14 N14
    try simp only [blockK, scopeK, if_true, Nat.reduceEqDiff, if_false, thenK]
    try simp only [thenK, scopeK]
    refine hN9 _ ?_
    clear hN9 N9
    refine pwp_then fun N51 hN51 => ?_
    refine pwp_then fun N52 hN52 => ?_
    refine pwp_reg fun R53 hR53 => ?_
    refine pops_to rfl fun M hM => ?_
    simp only [pop, St.eval, constSlot, upd_at, Nat.reduceEqDiff, if_true, if_false, popFieldAddr, fieldOf, List.drop_succ_cons, List.drop_zero, List.getElem?_toArray, List.getElem?_cons_zero, List.getElem?_cons_succ, Tryd.underlying26, sz23, e0_1, e0_26, e0_27, e0_28, dealPV]
    refine ⟨⟨_, rfl⟩, hM _ _ ?_⟩
    clear hM M
    refine pops_to rfl fun M hM => ?_
    simp only [pop, St.eval, constSlot, upd_at, Nat.reduceEqDiff, if_true, if_false, popLoad, loadK, isAggD, List.drop_zero, List.getElem?_toArray, List.getElem?_cons_zero, List.getElem?_cons_succ, Bool.false_eq_true, Tryd.underlying23, sz23, eq_self, true_and, and_true, e0_1, e0_26, e0_27, e0_28, dealPV]
    refine hM _ _ ?_
    clear hM M
    refine pops_to rfl fun M hM => ?_
    simp only [pop, St.eval, constSlot, upd_at, Nat.reduceEqDiff, if_true, if_false, popCall, List.toList_toArray, List.map_cons, List.map_nil, popBuiltin, popLen, lenOfSlot, List.length_map, Tryd.underlying23, eq_self, true_and, and_true, str_list, str_size, str_app, str_cut, str_get, e0_1, e0_26, e0_27, e0_28, dealPV, List.length_map]
    refine hM _ _ ?_
    clear hM M
    refine pops_mv (.inl rfl) rfl (by simp only [St.eval, constSlot] <;> rfl) ?_
    refine pops_done (hR53 _ ?_)
    clear hR53 R53
    try simp only [thenK, scopeK]
    refine hN52 _ ?_
    clear hN52 N52
    refine pwp_block ?_
    refine pwp_loop (fun k σ => ∃ (i : Nat), (k = d.refs.length - i) ∧ (i ≤ d.refs.length) ∧ (∀ y ∈ d.refs.take i, isPathB y.1 = true) ∧ (Same h σ.hp) ∧ (σ.env 1 = .sv (.one (.rop (dealPV d)))) ∧ (σ.env 117 = .sv (.one (.ro false 2 (d.refs.map refPV)))) ∧ (σ.env 118 = .sv (.one (pint (d.refs.length : Nat)))) ∧ (σ.env 119 = .sv (.one (pint (i : Nat))))) _ ⟨_, .refl _ _, 0, rfl, ?_⟩ ?_
    · exact ⟨Nat.zero_le _, by simp, sl0, by simp only [upd_at, Nat.reduceEqDiff, if_true, if_false, e0_1, e0_26, e0_27, e0_28, dealPV], by simp only [upd_at, Nat.reduceEqDiff, if_true, if_false, e0_1, e0_26, e0_27, e0_28, dealPV], by simp only [upd_at, Nat.reduceEqDiff, if_true, if_false, e0_1, e0_26, e0_27, e0_28, dealPV], by simp only [upd_at, Nat.reduceEqDiff, if_true, if_false] <;> rfl⟩
    ·rintro k ⟨e, hp1⟩ ⟨i, hk1, hx1_0, hx1_1, sl1, e1_1, e1_117, e1_118, e1_119⟩
     simp only at sl1 e1_1 e1_117 e1_118 e1_119
     refine pwp_then fun N54 hN54 => ?_
     refine pwp_reg fun R55 hR55 => ?_
     refine pops_to rfl fun M hM => ?_
     simp only [pop, St.eval, constSlot, upd_at, Nat.reduceEqDiff, if_true, if_false, popBin, binK, intK, strK, eqK, eq_self, true_and, and_true, e1_1, e1_117, e1_118, e1_119, dealPV]
     refine hM _ _ ?_
     clear hM M
     refine pops_done (hR55 _ ?_)
     clear hR55 R55
     try simp only [thenK, scopeK]
     refine hN54 _ ?_
     clear hN54 N54
     refine pwp_then fun N56 hN56 => ?_
     refine pwp_cond (by simp only [St.eval, upd_at, Nat.reduceEqDiff, if_true, if_false, e1_1, e1_117, e1_118, e1_119, dealPV] <;> rfl) (fun c120 => ?_) (fun c120 => ?_)
     ·skip
      have hi : i < d.refs.length := by have := of_decide_eq_true c120; omega
      obtain ⟨x, hx⟩ : ∃ x, d.refs[i]? = some x := ⟨_, List.getElem?_eq_getElem hi⟩
      have hget : (d.refs.map refPV)[i]? = some [pstr x.1, pint x.2] := by simp only [List.getElem?_map, hx, Option.map_some]
      refine pwp_skip ?_
      try simp only [thenK, scopeK]
      refine hN56 _ ?_
      clear hN56 N56
      refine pwp_then fun N57 hN57 => ?_
      refine pwp_block ?_
      refine pwp_then fun N58 hN58 => ?_
      refine pwp_reg fun R59 hR59 => ?_
      refine pops_to rfl fun M hM => ?_
      simp only [pop, St.eval, constSlot, upd_at, Nat.reduceEqDiff, if_true, if_false, popIndexAddr, Tryd.underlying23, sz38, eq_self, true_and, and_true, str_list, str_size, str_app, str_cut, str_get, e1_1, e1_117, e1_118, e1_119, dealPV, hget, Int.toNat_natCast]
      refine ⟨Int.natCast_nonneg _, hM _ _ ?_⟩
      clear hM M
      refine pops_to rfl fun M hM => ?_
      simp only [pop, St.eval, constSlot, upd_at, Nat.reduceEqDiff, if_true, if_false, List.length_cons, List.length_nil, Nat.zero_add, Nat.reduceAdd, Nat.reduceLeDiff, List.take_zero, List.take_succ_cons, List.take_nil, List.drop_succ_cons, List.drop_zero, List.drop_nil, List.nil_append, List.cons_append, List.append_nil, and_self, List.getElem?_cons_zero, List.getElem?_cons_succ, List.set_cons_zero, List.set_cons_succ, Option.some.injEq, popLoad, loadK, isAggD, List.drop_zero, List.getElem?_toArray, List.getElem?_cons_zero, List.getElem?_cons_succ, Bool.false_eq_true, Tryd.underlying38, sz38, eq_self, true_and, and_true, e1_1, e1_117, e1_118, e1_119, dealPV]
      refine hM _ _ ?_
      clear hM M
      refine pops_var (hpOk.same hb sl1) rfl ze38 (zs := [PV.val (.string ⟨#[]⟩), PV.val (.int .i64 0)]) (by kernel_rfl) (by simp) (by simp only [St.eval, constSlot, slotCells, upd_at, Nat.reduceEqDiff, if_true, if_false, e1_1, e1_117, e1_118, e1_119, dealPV] <;> rfl) (by rfl) (by exact Nat.succ_pos _) (by rw [sz38]; rfl) (fun hv60 sv60 => ?_)
      replace sv60 := Same.trans sl1 sv60
      refine pops_done (hR59 _ ?_)
      clear hR59 R59
      try simp only [thenK, scopeK]
      refine hN58 _ ?_
      clear hN58 N58
      refine pwp_then fun N61 hN61 => ?_
      refine pwp_reg fun R62 hR62 => ?_
      refine pops_to rfl fun M hM => ?_
      simp only [pop, St.eval, constSlot, upd_at, Nat.reduceEqDiff, if_true, if_false, popFieldAddr, fieldOf, List.drop_succ_cons, List.drop_zero, List.getElem?_toArray, List.getElem?_cons_zero, List.getElem?_cons_succ, Tryd.underlying38, sz9, e1_1, e1_117, e1_118, e1_119, dealPV]
      refine ⟨⟨_, rfl⟩, hM _ _ ?_⟩
      clear hM M
      refine pops_to rfl fun M hM => ?_
      simp only [pop, St.eval, constSlot, upd_at, Nat.reduceEqDiff, if_true, if_false, popLoad, loadK, isAggD, List.drop_zero, List.getElem?_toArray, List.getElem?_cons_zero, List.getElem?_cons_succ, Bool.false_eq_true, Tryd.underlying9, sz9, eq_self, true_and, and_true, e1_1, e1_117, e1_118, e1_119, dealPV]
      refine hM _ _ ?_
      clear hM M
      refine pops_to rfl fun M hM => ?_
      simp only [pop, St.eval, constSlot, upd_at, Nat.reduceEqDiff, if_true, if_false, popCall, List.toList_toArray, List.map_cons, List.map_nil, svs, List.mapM_cons, List.mapM_nil, Option.bind_eq_bind, Option.bind_some, Option.pure_def, List.append_nil, List.cons_append, List.nil_append, str_size, e1_1, e1_117, e1_118, e1_119, dealPV]
      refine PFun.use (isPath_fun W0 hm x.1) fun h3 s3 => hM _ _ ?_
      replace s3 := Same.trans sv60 s3
      clear hM M
      refine pops_to rfl fun M hM => ?_
      simp only [pop, St.eval, constSlot, upd_at, Nat.reduceEqDiff, if_true, if_false, unK, e1_1, e1_117, e1_118, e1_119, dealPV]
      refine hM _ _ ?_
      clear hM M
      refine pops_done (hR62 _ ?_)
      clear hR62 R62
      try simp only [thenK, scopeK]
      refine hN61 _ ?_
      clear hN61 N61
      refine pwp_cond (by simp only [St.eval, upd_at, Nat.reduceEqDiff, if_true, if_false, e1_1, e1_117, e1_118, e1_119, dealPV] <;> rfl) (fun c126 => ?_) (fun c126 => ?_)
      ·skip
       have hbad : isPathB x.1 = false := by simpa using c126
       refine pwp_then fun N63 hN63 => ?_
       refine pwp_reg fun R64 hR64 => ?_
       refine pops_mv (.inr rfl) rfl (by simp only [St.eval, constSlot] <;> rfl) ?_
       refine pops_done (hR64 _ ?_)
       clear hR64 R64
       try simp only [thenK, scopeK]
       refine hN63 _ ?_
       clear hN63 N63
       refine pwp_ret ?_
       simp only [thenK, blockK, scopeK, bodyK]
       clear hN57 N57 hN51 N51
       refine ⟨_, rfl, endFun s3 ?_⟩
       try simp only [upd_at, Nat.reduceEqDiff, if_true, if_false, e1_1, e1_117, e1_118, e1_119, dealPV]
       all_goals
        rw [dealE_path hbig hacts, pathsE_bad (x := x.1) (by simp only [List.mem_append, List.mem_map]; exact .inl ⟨x, List.mem_of_getElem? hx, rfl⟩) hbad]
      ·skip
       have hgood : isPathB x.1 = true := by simpa using c126
       refine pwp_skip ?_
       try simp only [blockK, thenK, scopeK]
       try simp only [thenK, scopeK]
       refine hN57 _ ?_
       clear hN57 N57
       refine pwp_reg fun R65 hR65 => ?_
       refine pops_to rfl fun M hM => ?_
       simp only [pop, St.eval, constSlot, upd_at, Nat.reduceEqDiff, if_true, if_false, popBin, binK, intK, strK, eqK, eq_self, true_and, and_true, e1_1, e1_117, e1_118, e1_119, dealPV]
       refine hM _ _ ?_
       clear hM M
       refine pops_mv (.inl rfl) rfl (by simp only [St.eval, upd_at, Nat.reduceEqDiff, if_true, if_false, e1_1, e1_117, e1_118, e1_119, dealPV] <;> rfl) ?_
       refine pops_done (hR65 _ ?_)
       clear hR65 R65
       try simp only [thenK, scopeK]
       exact ⟨_, by omega, _, .refl _ _, i + 1, rfl, by omega, take_next (Q := fun y => isPathB y.1 = true) hx1_1 hx hgood, s3, by simp only [upd_at, Nat.reduceEqDiff, if_true, if_false, e1_1, e1_117, e1_118, e1_119, dealPV], by simp only [upd_at, Nat.reduceEqDiff, if_true, if_false, e1_1, e1_117, e1_118, e1_119, dealPV], by simp only [upd_at, Nat.reduceEqDiff, if_true, if_false, e1_1, e1_117, e1_118, e1_119, dealPV], by simp only [upd_at, Nat.reduceEqDiff, if_true, if_false, e1_119]; rw [wrap_succ (by omega)]⟩
     ·skip
      have hi := of_decide_eq_false c120
      have hrp : ∀ y ∈ d.refs, isPathB y.1 = true := by rw [List.take_of_length_le (by omega)] at hx1_1; exact hx1_1
      refine pwp_exit ?_
      try simp only [thenK, blockK, scopeK, if_true, Nat.reduceEqDiff, if_false]
      clear hN56 N56
      try simp only [blockK, scopeK, if_true, Nat.reduceEqDiff, if_false, thenK]
      try simp only [thenK, scopeK]
      refine hN51 _ ?_
      clear hN51 N51
      refine pwp_then fun N66 hN66 => ?_
      refine pwp_then fun N67 hN67 => ?_
      refine pwp_reg fun R68 hR68 => ?_
      refine pops_to rfl fun M hM => ?_
      simp only [pop, St.eval, constSlot, upd_at, Nat.reduceEqDiff, if_true, if_false, popFieldAddr, fieldOf, List.drop_succ_cons, List.drop_zero, List.getElem?_toArray, List.getElem?_cons_zero, List.getElem?_cons_succ, Tryd.underlying26, sz24, e1_1, e1_117, e1_118, e1_119, dealPV]
      refine ⟨⟨_, rfl⟩, hM _ _ ?_⟩
      clear hM M
      refine pops_to rfl fun M hM => ?_
      simp only [pop, St.eval, constSlot, upd_at, Nat.reduceEqDiff, if_true, if_false, popLoad, loadK, isAggD, List.drop_zero, List.getElem?_toArray, List.getElem?_cons_zero, List.getElem?_cons_succ, Bool.false_eq_true, Tryd.underlying24, sz24, eq_self, true_and, and_true, e1_1, e1_117, e1_118, e1_119, dealPV]
      refine hM _ _ ?_
      clear hM M
      refine pops_to rfl fun M hM => ?_
      simp only [pop, St.eval, constSlot, upd_at, Nat.reduceEqDiff, if_true, if_false, popFieldAddr, fieldOf, List.drop_succ_cons, List.drop_zero, List.getElem?_toArray, List.getElem?_cons_zero, List.getElem?_cons_succ, Tryd.underlying26, sz24, e1_1, e1_117, e1_118, e1_119, dealPV]
      refine ⟨⟨_, rfl⟩, hM _ _ ?_⟩
      clear hM M
      refine pops_to rfl fun M hM => ?_
      simp only [pop, St.eval, constSlot, upd_at, Nat.reduceEqDiff, if_true, if_false, popLoad, loadK, isAggD, List.drop_zero, List.getElem?_toArray, List.getElem?_cons_zero, List.getElem?_cons_succ, Bool.false_eq_true, Tryd.underlying24, sz24, eq_self, true_and, and_true, e1_1, e1_117, e1_118, e1_119, dealPV]
      refine hM _ _ ?_
      clear hM M
      refine pops_to rfl fun M hM => ?_
      simp only [pop, St.eval, constSlot, upd_at, Nat.reduceEqDiff, if_true, if_false, popBuildSlice, slotCells, List.toList_toArray, List.map_cons, List.map_nil, List.mapM_cons, List.mapM_nil, Option.bind_eq_bind, Option.bind_some, Option.pure_def, Tryd.underlying58, sz24, ze24, by24, eq_self, true_and, and_true, str_list, str_size, str_app, str_cut, str_get, e1_1, e1_117, e1_118, e1_119, dealPV]
      refine ⟨by decide, by decide, rfl, rfl, by simp, by decide, rfl, hM _ _ ?_⟩
      clear hM M
      refine pops_to rfl fun M hM => ?_
      simp only [pop, St.eval, constSlot, upd_at, Nat.reduceEqDiff, if_true, if_false, popCall, List.toList_toArray, List.map_cons, List.map_nil, svs, List.mapM_cons, List.mapM_nil, Option.bind_eq_bind, Option.bind_some, Option.pure_def, List.append_nil, List.cons_append, List.nil_append, str_size, e1_1, e1_117, e1_118, e1_119, dealPV]
      refine PFun.use (concat_fun W0 true [d.eqs, d.cons] (by simp) (by simp; omega)) fun h4 s4 => hM _ _ ?_
      replace s4 := Same.trans sl1 s4
      clear hM M
      refine pops_to rfl fun M hM => ?_
      simp only [pop, St.eval, constSlot, upd_at, Nat.reduceEqDiff, if_true, if_false, popCall, List.toList_toArray, List.map_cons, List.map_nil, svs, List.mapM_cons, List.mapM_nil, Option.bind_eq_bind, Option.bind_some, Option.pure_def, List.append_nil, List.cons_append, List.nil_append, str_size, e1_1, e1_117, e1_118, e1_119, dealPV]
      refine PFun.use (containsFunc_fun W0 13 (fun y => !isPathB y) false ([d.eqs, d.cons].flatten) (fun y _ => pathN_fun W0 hm y) (by simp; omega)) fun h5 s5 => hM _ _ ?_
      replace s5 := Same.trans s4 s5
      clear hM M
      refine pops_done (hR68 _ ?_)
      clear hR68 R68
      try simp only [thenK, scopeK]
      refine hN67 _ ?_
      clear hN67 N67
      refine pwp_cond (by simp only [St.eval, upd_at, Nat.reduceEqDiff, if_true, if_false, e1_1, e1_117, e1_118, e1_119, dealPV] <;> rfl) (fun c134 => ?_) (fun c134 => ?_)
      ·skip
       refine pwp_then fun N69 hN69 => ?_
       refine pwp_reg fun R70 hR70 => ?_
       refine pops_mv (.inr rfl) rfl (by simp only [St.eval, constSlot] <;> rfl) ?_
       refine pops_done (hR70 _ ?_)
       clear hR70 R70
       try simp only [thenK, scopeK]
       refine hN69 _ ?_
       clear hN69 N69
       refine pwp_ret ?_
       simp only [thenK, blockK, scopeK, bodyK]
       clear hN66 N66
       refine ⟨_, rfl, endFun s5 ?_⟩
       try simp only [upd_at, Nat.reduceEqDiff, if_true, if_false, e1_1, e1_117, e1_118, e1_119, dealPV]
       all_goals
        obtain ⟨y, hy, hyb⟩ := List.any_eq_true.1 c134
        have hyb : isPathB y = false := by simpa using hyb
        rw [dealE_path hbig hacts, pathsE_bad (x := y) (by simp only [List.mem_append]; exact .inr (by simpa using hy)) hyb]
      ·skip
       refine pwp_skip ?_
       try simp only [thenK, scopeK]
       refine hN66 _ ?_
       clear hN66 N66
       refine pwp_then fun N71 hN71 => ?_
       refine pwp_reg fun R72 hR72 => ?_
       refine pops_mv (.inr rfl) rfl (by simp only [St.eval, constSlot] <;> rfl) ?_
       refine pops_done (hR72 _ ?_)
       clear hR72 R72
       try simp only [thenK, scopeK]
       refine hN71 _ ?_
       clear hN71 N71
       refine pwp_ret ?_
       simp only [thenK, blockK, scopeK, bodyK]
       refine ⟨_, rfl, endFun s5 ?_⟩
       try simp only [upd_at, Nat.reduceEqDiff, if_true, if_false, e1_1, e1_117, e1_118, e1_119, dealPV]
       all_goals
        have hb2 : ∀ y ∈ [d.eqs, d.cons].flatten, isPathB y = true := fun y hy => by simpa using List.any_eq_false.1 c134 y hy
        rw [dealE_path hbig hacts, pathsE_good (fun y hy => by
          rcases List.mem_append.1 hy with hy | hy
          · obtain ⟨z, hz, rfl⟩ := List.mem_map.1 hy
            exact hrp z hz
          · exact hb2 y (by simpa using hy))]
end Go.Pw
