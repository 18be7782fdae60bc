import Derived.Test.YtokmndkkgbamfaaDoorDealN
namespace Go.Pw
open Go Go.RowKit Go.Proofs
set_option maxRecDepth 100000
set_option linter.unusedSimpArgs false
set_option linter.unusedVariables false
theorem by24 : bytesOf' Tryd.prog 24 = some 24 := by kernel_rfl
theorem sz22 : szOf Tryd.prog 22 = some 1 := by kernel_rfl
theorem sz23 : szOf Tryd.prog 23 = some 1 := by kernel_rfl
theorem sz35 : szOf Tryd.prog 35 = some 6 := by kernel_rfl
theorem sz38 : szOf Tryd.prog 38 = some 2 := by kernel_rfl
theorem ze24 : zeroOf Tryd.prog 24 = some (.slice none 0 0) := by kernel_rfl
theorem ze35 : zeroOf Tryd.prog 35 = some (.agg #[(.int .i64 0), (.int .i64 0), (.string ⟨#[]⟩), (.string ⟨#[]⟩), (.int .i64 0), (.int .i64 0)]) := by kernel_rfl
theorem ze38 : zeroOf Tryd.prog 38 = some (.agg #[(.string ⟨#[]⟩), (.int .i64 0)]) := by kernel_rfl

theorem actsE_hit {l : List ActG} {i : Nat} {x : ActG} (h1 : ∀ y ∈ l.take i, actE y = 0) (hx : l[i]? = some x) (he : actE x ≠ 0) : actsE l = actE x := by
  induction l generalizing i with
  | nil => cases hx
  | cons a l ih =>
    cases i with
    | zero =>
      obtain rfl := Option.some.inj hx
      rw [actsE, if_neg he]
    | succ i =>
      rw [actsE, if_pos (h1 a (by simp))]
      exact ih (fun y hy => h1 y (by simp [hy])) hx
theorem actsE_none {l : List ActG} (h : ∀ y ∈ l, actE y = 0) : actsE l = 0 := by
  induction l with
  | nil => rfl
  | cons a l ih => rw [actsE, if_pos (h a (by simp))]; exact ih fun y hy => h y (by simp [hy])
theorem take_next {α : Type} {Q : α → Prop} {l : List α} {i : Nat} {x : α} (h1 : ∀ y ∈ l.take i, Q y) (hx : l[i]? = some x) (hq : Q x) : ∀ y ∈ l.take (i + 1), Q y := by
  rw [List.take_add_one, hx]
  simp only [Option.toList_some, List.mem_append, List.mem_singleton]
  rintro y (hy | rfl)
  · exact h1 y hy
  · exact hq
theorem pathsE_bad {l : List (List UInt8)} {x : List UInt8} (hx : x ∈ l) (h : isPathB x = false) : pathsE l = 1 := by
  unfold pathsE
  rw [if_neg]
  simp only [List.all_eq_true, Classical.not_forall]
  exact ⟨x, hx, by simp [h]⟩
theorem pathsE_good {l : List (List UInt8)} (h : ∀ x ∈ l, isPathB x = true) : pathsE l = 0 := by
  unfold pathsE
  rw [if_pos (List.all_eq_true.2 h)]
theorem refs_step {l : List (List UInt8 × Int)} {i : Nat} {x : List UInt8 × Int} (hx : l[i]? = some x) : (l.take (i + 1)).map (·.1) = (l.take i).map (·.1) ++ [x.1] := by
  rw [List.take_add_one, hx]; simp
theorem dealE_big {d : DealG} (h : d.acts.length > 20000 ∨ d.refs.length > 5000 ∨ d.eqs.length > 5000 ∨ d.cons.length > 5000) : dealE d = 8 := by rw [dealE, if_pos h]
theorem dealE_act {d : DealG} (h : ¬ (d.acts.length > 20000 ∨ d.refs.length > 5000 ∨ d.eqs.length > 5000 ∨ d.cons.length > 5000)) (h2 : actsE d.acts ≠ 0) : dealE d = actsE d.acts := by rw [dealE, if_neg h, if_pos h2]
theorem dealE_path {d : DealG} (h : ¬ (d.acts.length > 20000 ∨ d.refs.length > 5000 ∨ d.eqs.length > 5000 ∨ d.cons.length > 5000)) (h2 : actsE d.acts = 0) : dealE d = pathsE (d.refs.map (·.1) ++ (d.eqs ++ d.cons)) := by rw [dealE, if_neg h, if_neg (fun e => e h2)]
theorem nm8 : (Tryd.f8.name == "runtime.NumGoroutine") = false := by kernel_rfl
set_option maxHeartbeats 4000000 in
theorem checkDeal_fun (W0 : World) (hm : HasMax W0) (d : DealG) :
  PFun Tryd.prog W0 8 [.agg (dealPV d)] (.sv (.one (pint (dealE d)))) := by
 intro h
 refine pcalls1 (n := 78) Tryd.func8 rfl nm8 rfl fun hb => ?_
 refine pwp_then fun N1 hN1 => ?_
 refine pwp_reg fun R2 hR2 => ?_
 refine pops_to rfl fun M hM => ?_
 simp only [pop, St.eval, constSlot, upd_at, Nat.reduceEqDiff, if_true, if_false, popBox, popBoxRo, slotCells, dealPV]
 refine .inr ⟨Nat.succ_pos _, hM _ _ ?_⟩
 clear hM M
 refine pops_mv (.inr rfl) rfl (by simp only [St.eval, constSlot] <;> rfl) ?_
 refine pops_done (hR2 _ ?_)
 clear hR2 R2
 try simp only [thenK, scopeK]
 refine hN1 _ ?_
 clear hN1 N1
 refine pwp_then fun N3 hN3 => ?_
 refine pwp_then fun N4 hN4 => ?_
 refine pwp_reg fun R5 hR5 => ?_
 refine pops_to rfl fun M hM => ?_
 simp only [pop, St.eval, constSlot, upd_at, Nat.reduceEqDiff, if_true, if_false, popFieldAddr, fieldOf, List.drop_succ_cons, List.drop_zero, List.getElem?_toArray, List.getElem?_cons_zero, List.getElem?_cons_succ, Tryd.underlying26, sz22, dealPV]
 refine ⟨⟨_, rfl⟩, hM _ _ ?_⟩
 clear hM M
 refine pops_to rfl fun M hM => ?_
 simp only [pop, St.eval, constSlot, upd_at, Nat.reduceEqDiff, if_true, if_false, popLoad, loadK, isAggD, List.drop_zero, List.getElem?_toArray, List.getElem?_cons_zero, List.getElem?_cons_succ, Bool.false_eq_true, Tryd.underlying22, sz22, eq_self, true_and, and_true, dealPV]
 refine hM _ _ ?_
 clear hM M
 refine pops_to rfl fun M hM => ?_
 simp only [pop, St.eval, constSlot, upd_at, Nat.reduceEqDiff, if_true, if_false, popCall, List.toList_toArray, List.map_cons, List.map_nil, popBuiltin, popLen, lenOfSlot, List.length_map, Tryd.underlying22, eq_self, true_and, and_true, str_list, str_size, str_app, str_cut, str_get, dealPV, List.length_map]
 refine hM _ _ ?_
 clear hM M
 refine pops_to rfl fun M hM => ?_
 simp only [pop, St.eval, constSlot, upd_at, Nat.reduceEqDiff, if_true, if_false, popBin, binK, intK, strK, eqK, eq_self, true_and, and_true, dealPV]
 refine hM _ _ ?_
 clear hM M
 refine pops_mv (.inl rfl) rfl (by simp only [St.eval, upd_at, Nat.reduceEqDiff, if_true, if_false, dealPV] <;> rfl) ?_
 apply pops_or0 5 16 21 [17, 18, 19, 20] (by simp only [upd_at, Nat.reduceEqDiff, if_true, if_false, dealPV] <;> rfl)
 ·skip
  intro g16_0 J6 hJ6
  simp only [List.take_succ_cons, List.take_zero]
  simp only [anyAt_cons, anyAt_nil] at hJ6
  refine pops_do rfl rfl (by simp only [upd_at, Nat.reduceEqDiff, if_true, if_false, dealPV, g16_0]) fun M hM => ?_
  simp only [pop, St.eval, constSlot, upd_at, Nat.reduceEqDiff, if_true, if_false, popFieldAddr, fieldOf, List.drop_succ_cons, List.drop_zero, List.getElem?_toArray, List.getElem?_cons_zero, List.getElem?_cons_succ, Tryd.underlying26, sz23, dealPV, g16_0]
  refine ⟨⟨_, rfl⟩, hM _ _ ?_⟩
  clear hM M
  refine pops_do rfl rfl (by simp only [upd_at, Nat.reduceEqDiff, if_true, if_false, dealPV, g16_0]) fun M hM => ?_
  simp only [pop, St.eval, constSlot, upd_at, Nat.reduceEqDiff, if_true, if_false, popLoad, loadK, isAggD, List.drop_zero, List.getElem?_toArray, List.getElem?_cons_zero, List.getElem?_cons_succ, Bool.false_eq_true, Tryd.underlying23, sz23, eq_self, true_and, and_true, dealPV, g16_0]
  refine hM _ _ ?_
  clear hM M
  refine pops_do rfl rfl (by simp only [upd_at, Nat.reduceEqDiff, if_true, if_false, dealPV, g16_0]) fun M hM => ?_
  simp only [pop, St.eval, constSlot, upd_at, Nat.reduceEqDiff, if_true, if_false, popCall, List.toList_toArray, List.map_cons, List.map_nil, popBuiltin, popLen, lenOfSlot, List.length_map, Tryd.underlying23, eq_self, true_and, and_true, str_list, str_size, str_app, str_cut, str_get, dealPV, g16_0, List.length_map]
  refine hM _ _ ?_
  clear hM M
  refine pops_do rfl rfl (by simp only [upd_at, Nat.reduceEqDiff, if_true, if_false, dealPV, g16_0]) fun M hM => ?_
  simp only [pop, St.eval, constSlot, upd_at, Nat.reduceEqDiff, if_true, if_false, popBin, binK, intK, strK, eqK, eq_self, true_and, and_true, dealPV, g16_0]
  refine hM _ _ ?_
  clear hM M
  refine pops_to rfl fun M hM => ?_
  simp only [pop, St.eval, constSlot, upd_at, Nat.reduceEqDiff, if_true, if_false, popIf, true_implies, false_implies, Bool.true_eq_false, Bool.false_eq_true, reduceCtorEq, true_and, and_true, dealPV, g16_0]
  refine hM _ _ ?_
  clear hM M
  exact pops_done (hJ6 _ (wk_same (wk_any ((wk_any ((wk_any ((wk_any (Wk.refl _ _))))))))))
 ·skip
  intro g16_0 J6 hJ6
  simp only [List.take_succ_cons, List.take_zero]
  simp only [anyAt_cons, anyAt_nil] at hJ6
  refine pops_off (b := true) rfl rfl (by simp only [upd_at, Nat.reduceEqDiff, if_true, if_false, dealPV, g16_0]) (by decide) ?_
  refine pops_off (b := true) rfl rfl (by simp only [upd_at, Nat.reduceEqDiff, if_true, if_false, dealPV, g16_0]) (by decide) ?_
  refine pops_off (b := true) rfl rfl (by simp only [upd_at, Nat.reduceEqDiff, if_true, if_false, dealPV, g16_0]) (by decide) ?_
  refine pops_off (b := true) rfl rfl (by simp only [upd_at, Nat.reduceEqDiff, if_true, if_false, dealPV, g16_0]) (by decide) ?_
  refine pops_to rfl fun M hM => ?_
  simp only [pop, St.eval, constSlot, upd_at, Nat.reduceEqDiff, if_true, if_false, popIf, true_implies, false_implies, Bool.true_eq_false, Bool.false_eq_true, reduceCtorEq, true_and, and_true, dealPV, g16_0]
  refine hM _ _ ?_
  clear hM M
  exact pops_done (hJ6 _ (wk_same (wk_any ((wk_any ((wk_any ((wk_any (Wk.refl _ _))))))))))
 simp only [List.drop_succ_cons, List.drop_zero, anyAt_cons, anyAt_nil]
 refine pops_mv (.inl rfl) rfl (by simp only [St.eval, upd_at, Nat.reduceEqDiff, if_true, if_false, dealPV] <;> rfl) ?_
 apply pops_or0 5 22 27 [23, 24, 25, 26] (by simp only [upd_at, Nat.reduceEqDiff, if_true, if_false, dealPV] <;> rfl)
 ·skip
  intro g22_0 J7 hJ7
  simp only [List.take_succ_cons, List.take_zero]
  simp only [anyAt_cons, anyAt_nil] at hJ7
  refine pops_do rfl rfl (by simp only [upd_at, Nat.reduceEqDiff, if_true, if_false, dealPV, g22_0]) fun M hM => ?_
  simp only [pop, St.eval, constSlot, upd_at, Nat.reduceEqDiff, if_true, if_false, popFieldAddr, fieldOf, List.drop_succ_cons, List.drop_zero, List.getElem?_toArray, List.getElem?_cons_zero, List.getElem?_cons_succ, Tryd.underlying26, sz24, dealPV, g22_0]
  refine ⟨⟨_, rfl⟩, hM _ _ ?_⟩
  clear hM M
  refine pops_do rfl rfl (by simp only [upd_at, Nat.reduceEqDiff, if_true, if_false, dealPV, g22_0]) fun M hM => ?_
  simp only [pop, St.eval, constSlot, upd_at, Nat.reduceEqDiff, if_true, if_false, popLoad, loadK, isAggD, List.drop_zero, List.getElem?_toArray, List.getElem?_cons_zero, List.getElem?_cons_succ, Bool.false_eq_true, Tryd.underlying24, sz24, eq_self, true_and, and_true, dealPV, g22_0]
  refine hM _ _ ?_
  clear hM M
  refine pops_do rfl rfl (by simp only [upd_at, Nat.reduceEqDiff, if_true, if_false, dealPV, g22_0]) fun M hM => ?_
  simp only [pop, St.eval, constSlot, upd_at, Nat.reduceEqDiff, if_true, if_false, popCall, List.toList_toArray, List.map_cons, List.map_nil, popBuiltin, popLen, lenOfSlot, List.length_map, Tryd.underlying24, eq_self, true_and, and_true, str_list, str_size, str_app, str_cut, str_get, dealPV, g22_0, pstrs_len]
  refine hM _ _ ?_
  clear hM M
  refine pops_do rfl rfl (by simp only [upd_at, Nat.reduceEqDiff, if_true, if_false, dealPV, g22_0]) fun M hM => ?_
  simp only [pop, St.eval, constSlot, upd_at, Nat.reduceEqDiff, if_true, if_false, popBin, binK, intK, strK, eqK, eq_self, true_and, and_true, dealPV, g22_0]
  refine hM _ _ ?_
  clear hM M
  refine pops_to rfl fun M hM => ?_
  simp only [pop, St.eval, constSlot, upd_at, Nat.reduceEqDiff, if_true, if_false, popIf, true_implies, false_implies, Bool.true_eq_false, Bool.false_eq_true, reduceCtorEq, true_and, and_true, dealPV, g22_0]
  refine hM _ _ ?_
  clear hM M
  exact pops_done (hJ7 _ (wk_same (wk_any ((wk_any ((wk_any ((wk_any (Wk.refl _ _))))))))))
 ·skip
  intro g22_0 J7 hJ7
  simp only [List.take_succ_cons, List.take_zero]
  simp only [anyAt_cons, anyAt_nil] at hJ7
  refine pops_off (b := true) rfl rfl (by simp only [upd_at, Nat.reduceEqDiff, if_true, if_false, dealPV, g22_0]) (by decide) ?_
  refine pops_off (b := true) rfl rfl (by simp only [upd_at, Nat.reduceEqDiff, if_true, if_false, dealPV, g22_0]) (by decide) ?_
  refine pops_off (b := true) rfl rfl (by simp only [upd_at, Nat.reduceEqDiff, if_true, if_false, dealPV, g22_0]) (by decide) ?_
  refine pops_off (b := true) rfl rfl (by simp only [upd_at, Nat.reduceEqDiff, if_true, if_false, dealPV, g22_0]) (by decide) ?_
  refine pops_to rfl fun M hM => ?_
  simp only [pop, St.eval, constSlot, upd_at, Nat.reduceEqDiff, if_true, if_false, popIf, true_implies, false_implies, Bool.true_eq_false, Bool.false_eq_true, reduceCtorEq, true_and, and_true, dealPV, g22_0]
  refine hM _ _ ?_
  clear hM M
  exact pops_done (hJ7 _ (wk_same (wk_any ((wk_any ((wk_any ((wk_any (Wk.refl _ _))))))))))
 simp only [List.drop_succ_cons, List.drop_zero, anyAt_cons, anyAt_nil]
 refine pops_mv (.inl rfl) rfl (by simp only [St.eval, upd_at, Nat.reduceEqDiff, if_true, if_false, dealPV] <;> rfl) ?_
 apply pops_or0 5 28 33 [29, 30, 31, 32] (by simp only [upd_at, Nat.reduceEqDiff, if_true, if_false, dealPV] <;> rfl)
 ·skip
  intro g28_0 J8 hJ8
  simp only [List.take_succ_cons, List.take_zero]
  simp only [anyAt_cons, anyAt_nil] at hJ8
  refine pops_do rfl rfl (by simp only [upd_at, Nat.reduceEqDiff, if_true, if_false, dealPV, g28_0]) fun M hM => ?_
  simp only [pop, St.eval, constSlot, upd_at, Nat.reduceEqDiff, if_true, if_false, popFieldAddr, fieldOf, List.drop_succ_cons, List.drop_zero, List.getElem?_toArray, List.getElem?_cons_zero, List.getElem?_cons_succ, Tryd.underlying26, sz24, dealPV, g28_0]
  refine ⟨⟨_, rfl⟩, hM _ _ ?_⟩
  clear hM M
  refine pops_do rfl rfl (by simp only [upd_at, Nat.reduceEqDiff, if_true, if_false, dealPV, g28_0]) fun M hM => ?_
  simp only [pop, St.eval, constSlot, upd_at, Nat.reduceEqDiff, if_true, if_false, popLoad, loadK, isAggD, List.drop_zero, List.getElem?_toArray, List.getElem?_cons_zero, List.getElem?_cons_succ, Bool.false_eq_true, Tryd.underlying24, sz24, eq_self, true_and, and_true, dealPV, g28_0]
  refine hM _ _ ?_
  clear hM M
  refine pops_do rfl rfl (by simp only [upd_at, Nat.reduceEqDiff, if_true, if_false, dealPV, g28_0]) fun M hM => ?_
  simp only [pop, St.eval, constSlot, upd_at, Nat.reduceEqDiff, if_true, if_false, popCall, List.toList_toArray, List.map_cons, List.map_nil, popBuiltin, popLen, lenOfSlot, List.length_map, Tryd.underlying24, eq_self, true_and, and_true, str_list, str_size, str_app, str_cut, str_get, dealPV, g28_0, pstrs_len]
  refine hM _ _ ?_
  clear hM M
  refine pops_do rfl rfl (by simp only [upd_at, Nat.reduceEqDiff, if_true, if_false, dealPV, g28_0]) fun M hM => ?_
  simp only [pop, St.eval, constSlot, upd_at, Nat.reduceEqDiff, if_true, if_false, popBin, binK, intK, strK, eqK, eq_self, true_and, and_true, dealPV, g28_0]
  refine hM _ _ ?_
  clear hM M
  refine pops_to rfl fun M hM => ?_
  simp only [pop, St.eval, constSlot, upd_at, Nat.reduceEqDiff, if_true, if_false, popIf, true_implies, false_implies, Bool.true_eq_false, Bool.false_eq_true, reduceCtorEq, true_and, and_true, dealPV, g28_0]
  refine hM _ _ ?_
  clear hM M
  exact pops_done (hJ8 _ (wk_same (wk_any ((wk_any ((wk_any ((wk_any (Wk.refl _ _))))))))))
 ·skip
  intro g28_0 J8 hJ8
  simp only [List.take_succ_cons, List.take_zero]
  simp only [anyAt_cons, anyAt_nil] at hJ8
  refine pops_off (b := true) rfl rfl (by simp only [upd_at, Nat.reduceEqDiff, if_true, if_false, dealPV, g28_0]) (by decide) ?_
  refine pops_off (b := true) rfl rfl (by simp only [upd_at, Nat.reduceEqDiff, if_true, if_false, dealPV, g28_0]) (by decide) ?_
  refine pops_off (b := true) rfl rfl (by simp only [upd_at, Nat.reduceEqDiff, if_true, if_false, dealPV, g28_0]) (by decide) ?_
  refine pops_off (b := true) rfl rfl (by simp only [upd_at, Nat.reduceEqDiff, if_true, if_false, dealPV, g28_0]) (by decide) ?_
  refine pops_to rfl fun M hM => ?_
  simp only [pop, St.eval, constSlot, upd_at, Nat.reduceEqDiff, if_true, if_false, popIf, true_implies, false_implies, Bool.true_eq_false, Bool.false_eq_true, reduceCtorEq, true_and, and_true, dealPV, g28_0]
  refine hM _ _ ?_
  clear hM M
  exact pops_done (hJ8 _ (wk_same (wk_any ((wk_any ((wk_any ((wk_any (Wk.refl _ _))))))))))
 simp only [List.drop_succ_cons, List.drop_zero, anyAt_cons, anyAt_nil]
 refine pops_done (hR5 _ ?_)
 clear hR5 R5
 try simp only [thenK, scopeK]
 refine hN4 _ ?_
 clear hN4 N4
 refine pwp_cond (by simp only [St.eval, upd_at, Nat.reduceEqDiff, if_true, if_false, dealPV] <;> rfl) (fun c33 => ?_) (fun c33 => ?_)
 ·skip
  have hbig : d.acts.length > 20000 ∨ d.refs.length > 5000 ∨ d.eqs.length > 5000 ∨ d.cons.length > 5000 := by simp only [Bool.or_eq_true, decide_eq_true_eq] at c33; omega
  refine pwp_then fun N9 hN9 => ?_
  refine pwp_reg fun R10 hR10 => ?_
  refine pops_mv (.inr rfl) rfl (by simp only [St.eval, constSlot] <;> rfl) ?_
  refine pops_done (hR10 _ ?_)
  clear hR10 R10
  try simp only [thenK, scopeK]
  refine hN9 _ ?_
  clear hN9 N9
  refine pwp_ret ?_
  simp only [thenK, blockK, scopeK, bodyK]
  clear hN3 N3
  exact ⟨_, rfl, by rw [dealE_big hbig]; exact endKeeps1 (Same.keeps (Same.refl _)) rfl⟩
 ·skip
  have hbig : ¬ (d.acts.length > 20000 ∨ d.refs.length > 5000 ∨ d.eqs.length > 5000 ∨ d.cons.length > 5000) := by simp only [Bool.or_eq_false_iff, decide_eq_false_iff_not] at c33; omega
  refine pwp_skip ?_
  try simp only [thenK, scopeK]
  refine hN3 _ ?_
  clear hN3 N3
  refine pwp_then fun N11 hN11 => ?_
  refine pwp_then fun N12 hN12 => ?_
  refine pwp_reg fun R13 hR13 => ?_
  refine pops_to rfl fun M hM => ?_
  simp only [pop, St.eval, constSlot, upd_at, Nat.reduceEqDiff, if_true, if_false, popFieldAddr, fieldOf, List.drop_succ_cons, List.drop_zero, List.getElem?_toArray, List.getElem?_cons_zero, List.getElem?_cons_succ, Tryd.underlying26, sz22, dealPV]
  refine ⟨⟨_, rfl⟩, hM _ _ ?_⟩
  clear hM M
  refine pops_to rfl fun M hM => ?_
  simp only [pop, St.eval, constSlot, upd_at, Nat.reduceEqDiff, if_true, if_false, popLoad, loadK, isAggD, List.drop_zero, List.getElem?_toArray, List.getElem?_cons_zero, List.getElem?_cons_succ, Bool.false_eq_true, Tryd.underlying22, sz22, eq_self, true_and, and_true, dealPV]
  refine hM _ _ ?_
  clear hM M
  refine pops_to rfl fun M hM => ?_
  simp only [pop, St.eval, constSlot, upd_at, Nat.reduceEqDiff, if_true, if_false, popCall, List.toList_toArray, List.map_cons, List.map_nil, popBuiltin, popLen, lenOfSlot, List.length_map, Tryd.underlying22, eq_self, true_and, and_true, str_list, str_size, str_app, str_cut, str_get, dealPV, List.length_map]
  refine hM _ _ ?_
  clear hM M
  refine pops_mv (.inl rfl) rfl (by simp only [St.eval, constSlot] <;> rfl) ?_
  refine pops_done (hR13 _ ?_)
  clear hR13 R13
  try simp only [thenK, scopeK]
  refine hN12 _ ?_
  clear hN12 N12
  refine pwp_block ?_
  refine pwp_loop (fun k σ => ∃ (i : Nat), (k = d.acts.length - i) ∧ (i ≤ d.acts.length) ∧ (∀ y ∈ d.acts.take i, actE y = 0) ∧ (Same h σ.hp) ∧ (σ.env 1 = .sv (.one (.rop (dealPV d)))) ∧ (σ.env 35 = .sv (.one (.ro false 6 (d.acts.map actPV)))) ∧ (σ.env 36 = .sv (.one (pint (d.acts.length : Nat)))) ∧ (σ.env 37 = .sv (.one (pint (i : Nat))))) _ ⟨_, .refl _ _, 0, rfl, ?_⟩ ?_
  · exact ⟨Nat.zero_le _, by simp, (Same.refl _), by simp only [upd_at, Nat.reduceEqDiff, if_true, if_false, dealPV], by simp only [upd_at, Nat.reduceEqDiff, if_true, if_false, dealPV], by simp only [upd_at, Nat.reduceEqDiff, if_true, if_false, dealPV], by simp only [upd_at, Nat.reduceEqDiff, if_true, if_false]; rfl⟩
  ·rintro k ⟨e, hp0⟩ ⟨i, hk0, hx0_0, hx0_1, sl0, e0_1, e0_35, e0_36, e0_37⟩
   simp only at sl0 e0_1 e0_35 e0_36 e0_37
   refine pwp_then fun N14 hN14 => ?_
   refine pwp_reg fun R15 hR15 => ?_
   refine pops_to rfl fun M hM => ?_
   simp only [pop, St.eval, constSlot, upd_at, Nat.reduceEqDiff, if_true, if_false, popBin, binK, intK, strK, eqK, eq_self, true_and, and_true, e0_1, e0_35, e0_36, e0_37, dealPV]
   refine hM _ _ ?_
   clear hM M
   refine pops_done (hR15 _ ?_)
   clear hR15 R15
   try simp only [thenK, scopeK]
   refine hN14 _ ?_
   clear hN14 N14
   refine pwp_then fun N16 hN16 => ?_
   refine pwp_cond (by simp only [St.eval, upd_at, Nat.reduceEqDiff, if_true, if_false, e0_1, e0_35, e0_36, e0_37, dealPV] <;> rfl) (fun c38 => ?_) (fun c38 => ?_)
   ·skip
    have hi : i < d.acts.length := by have := of_decide_eq_true c38; omega
    obtain ⟨x, hx⟩ : ∃ x, d.acts[i]? = some x := ⟨_, List.getElem?_eq_getElem hi⟩
    have hget : (d.acts.map actPV)[i]? = some [pint x.kind, pint x.side, pstr x.src, pstr x.dst, pint x.size, pint x.time] := by simp only [List.getElem?_map, hx, Option.map_some]
    refine pwp_skip ?_
    try simp only [thenK, scopeK]
    refine hN16 _ ?_
    clear hN16 N16
    refine pwp_then fun N17 hN17 => ?_
    refine pwp_block ?_
    refine pwp_then fun N18 hN18 => ?_
    refine pwp_reg fun R19 hR19 => ?_
    refine pops_to rfl fun M hM => ?_
    simp only [pop, St.eval, constSlot, upd_at, Nat.reduceEqDiff, if_true, if_false, popIndexAddr, Tryd.underlying22, sz35, eq_self, true_and, and_true, str_list, str_size, str_app, str_cut, str_get, e0_1, e0_35, e0_36, e0_37, dealPV, hget, Int.toNat_natCast]
    refine ⟨Int.natCast_nonneg _, hM _ _ ?_⟩
    clear hM M
    refine pops_to rfl fun M hM => ?_
    simp only [pop, St.eval, constSlot, upd_at, Nat.reduceEqDiff, if_true, if_false, List.length_cons, List.length_nil, Nat.zero_add, Nat.reduceAdd, Nat.reduceLeDiff, List.take_zero, List.take_succ_cons, List.take_nil, List.drop_succ_cons, List.drop_zero, List.drop_nil, List.nil_append, List.cons_append, List.append_nil, and_self, List.getElem?_cons_zero, List.getElem?_cons_succ, List.set_cons_zero, List.set_cons_succ, Option.some.injEq, popLoad, loadK, isAggD, List.drop_zero, List.getElem?_toArray, List.getElem?_cons_zero, List.getElem?_cons_succ, Bool.false_eq_true, Tryd.underlying35, sz35, eq_self, true_and, and_true, e0_1, e0_35, e0_36, e0_37, dealPV]
    refine hM _ _ ?_
    clear hM M
    refine pops_var (hpOk.same hb sl0) rfl ze35 (zs := [PV.val (.int .i64 0), PV.val (.int .i64 0), PV.val (.string ⟨#[]⟩), PV.val (.string ⟨#[]⟩), PV.val (.int .i64 0), PV.val (.int .i64 0)]) (by kernel_rfl) (by simp) (by simp only [St.eval, constSlot, slotCells, upd_at, Nat.reduceEqDiff, if_true, if_false, e0_1, e0_35, e0_36, e0_37, dealPV] <;> rfl) (by rfl) (by exact Nat.succ_pos _) (by rw [sz35]; rfl) (fun hv20 sv20 => ?_)
    replace sv20 := Same.trans sl0 sv20
    refine pops_done (hR19 _ ?_)
    clear hR19 R19
    try simp only [thenK, scopeK]
    refine hN18 _ ?_
    clear hN18 N18
    refine pwp_then fun N21 hN21 => ?_
    refine pwp_reg fun R22 hR22 => ?_
    refine pops_to rfl fun M hM => ?_
    simp only [pop, St.eval, constSlot, upd_at, Nat.reduceEqDiff, if_true, if_false, List.length_cons, List.length_nil, Nat.zero_add, Nat.reduceAdd, Nat.reduceLeDiff, List.take_zero, List.take_succ_cons, List.take_nil, List.drop_succ_cons, List.drop_zero, List.drop_nil, List.nil_append, List.cons_append, List.append_nil, and_self, List.getElem?_cons_zero, List.getElem?_cons_succ, List.set_cons_zero, List.set_cons_succ, Option.some.injEq, popLoad, loadK, isAggD, List.drop_zero, List.getElem?_toArray, List.getElem?_cons_zero, List.getElem?_cons_succ, Bool.false_eq_true, Tryd.underlying35, sz35, eq_self, true_and, and_true, e0_1, e0_35, e0_36, e0_37, dealPV]
    refine hM _ _ ?_
    clear hM M
    refine pops_to rfl fun M hM => ?_
    simp only [pop, St.eval, constSlot, upd_at, Nat.reduceEqDiff, if_true, if_false, popCall, List.toList_toArray, List.map_cons, List.map_nil, svs, List.mapM_cons, List.mapM_nil, Option.bind_eq_bind, Option.bind_some, Option.pure_def, List.append_nil, List.cons_append, List.nil_append, str_size, e0_1, e0_35, e0_36, e0_37, dealPV]
    refine PFun.use (checkAct_fun W0 hm x) fun h1 s1 => hM _ _ ?_
    replace s1 := Same.trans sv20 s1
    clear hM M
    refine pops_mv (.inr rfl) rfl (by simp only [St.eval, upd_at, Nat.reduceEqDiff, if_true, if_false, e0_1, e0_35, e0_36, e0_37, dealPV] <;> rfl) ?_
    refine pops_done (hR22 _ ?_)
    clear hR22 R22
    try simp only [thenK, scopeK]
    refine hN21 _ ?_
    clear hN21 N21
    refine pwp_then fun N23 hN23 => ?_
    refine pwp_reg fun R24 hR24 => ?_
    refine pops_mv (.inl rfl) rfl (by simp only [St.eval, upd_at, Nat.reduceEqDiff, if_true, if_false, e0_1, e0_35, e0_36, e0_37, dealPV] <;> rfl) ?_
    refine pops_to rfl fun M hM => ?_
    simp only [pop, St.eval, constSlot, upd_at, Nat.reduceEqDiff, if_true, if_false, popBin, binK, intK, strK, eqK, Tryd.underlying28, isPtr, eq_self, true_and, and_true, e0_1, e0_35, e0_36, e0_37, dealPV]
    refine hM _ _ ?_
    clear hM M
    refine pops_done (hR24 _ ?_)
    clear hR24 R24
    try simp only [thenK, scopeK]
    refine hN23 _ ?_
    clear hN23 N23
    refine pwp_cond (by simp only [St.eval, upd_at, Nat.reduceEqDiff, if_true, if_false, e0_1, e0_35, e0_36, e0_37, dealPV] <;> rfl) (fun c44 => ?_) (fun c44 => ?_)
    ·skip
     have hne : actE x ≠ 0 := by simpa using c44
     have hact := actsE_hit hx0_1 hx hne
     refine pwp_then fun N25 hN25 => ?_
     refine pwp_reg fun R26 hR26 => ?_
     refine pops_mv (.inl rfl) rfl (by simp only [St.eval, upd_at, Nat.reduceEqDiff, if_true, if_false, e0_1, e0_35, e0_36, e0_37, dealPV] <;> rfl) ?_
     refine pops_mv (.inr rfl) rfl (by simp only [St.eval, upd_at, Nat.reduceEqDiff, if_true, if_false, e0_1, e0_35, e0_36, e0_37, dealPV] <;> rfl) ?_
     refine pops_done (hR26 _ ?_)
     clear hR26 R26
     try simp only [thenK, scopeK]
     refine hN25 _ ?_
     clear hN25 N25
     refine pwp_ret ?_
     simp only [thenK, blockK, scopeK, bodyK]
     clear hN17 N17 hN11 N11
     exact ⟨_, rfl, by rw [dealE_act hbig (by rw [hact]; exact hne), hact]; exact endKeeps1 (Same.keeps s1) rfl⟩
    ·skip
     have he0 : actE x = 0 := by simpa using c44
     refine pwp_skip ?_
     try simp only [blockK, thenK, scopeK]
     try simp only [thenK, scopeK]
     refine hN17 _ ?_
     clear hN17 N17
     refine pwp_reg fun R27 hR27 => ?_
     refine pops_to rfl fun M hM => ?_
     simp only [pop, St.eval, constSlot, upd_at, Nat.reduceEqDiff, if_true, if_false, popBin, binK, intK, strK, eqK, eq_self, true_and, and_true, e0_1, e0_35, e0_36, e0_37, dealPV]
     refine hM _ _ ?_
     clear hM M
     refine pops_mv (.inl rfl) rfl (by simp only [St.eval, upd_at, Nat.reduceEqDiff, if_true, if_false, e0_1, e0_35, e0_36, e0_37, dealPV] <;> rfl) ?_
     refine pops_done (hR27 _ ?_)
     clear hR27 R27
     try simp only [thenK, scopeK]
     exact ⟨_, by omega, _, .refl _ _, i + 1, rfl, by omega, take_next hx0_1 hx he0, s1, by simp only [upd_at, Nat.reduceEqDiff, if_true, if_false, e0_1, e0_35, e0_36, e0_37, dealPV], by simp only [upd_at, Nat.reduceEqDiff, if_true, if_false, e0_1, e0_35, e0_36, e0_37, dealPV], by simp only [upd_at, Nat.reduceEqDiff, if_true, if_false, e0_1, e0_35, e0_36, e0_37, dealPV], by simp only [upd_at, Nat.reduceEqDiff, if_true, if_false, e0_37]; rw [wrap_succ (by omega)]⟩
   ·skip
    have hi := of_decide_eq_false c38
    have hacts : actsE d.acts = 0 := actsE_none (by rw [List.take_of_length_le (by omega)] at hx0_1; exact hx0_1)
    refine pwp_exit ?_
    try simp only [thenK, blockK, scopeK, if_true, Nat.reduceEqDiff, if_false]
    clear hN16 N16
    try simp only [blockK, scopeK, if_true, Nat.reduceEqDiff, if_false, thenK]
    try simp only [thenK, scopeK]
    refine hN11 _ ?_
    clear hN11 N11
    refine pwp_then fun N28 hN28 => ?_
    refine pwp_reg fun R29 hR29 => ?_
    refine pops_mv (.inr rfl) rfl (by simp only [St.eval, constSlot] <;> rfl) ?_
    refine pops_done (hR29 _ ?_)
    clear hR29 R29
    try simp only [thenK, scopeK]
    refine hN28 _ ?_
    clear hN28 N28
    refine pwp_then fun N30 hN30 => ?_
    refine pwp_then fun N31 hN31 => ?_
    refine pwp_reg fun R32 hR32 => ?_
    refine pops_to rfl fun M hM => ?_
    simp only [pop, St.eval, constSlot, upd_at, Nat.reduceEqDiff, if_true, if_false, popFieldAddr, fieldOf, List.drop_succ_cons, List.drop_zero, List.getElem?_toArray, List.getElem?_cons_zero, List.getElem?_cons_succ, Tryd.underlying26, sz23, e0_1, e0_35, e0_36, e0_37, dealPV]
    refine ⟨⟨_, rfl⟩, hM _ _ ?_⟩
    clear hM M
    refine pops_to rfl fun M hM => ?_
    simp only [pop, St.eval, constSlot, upd_at, Nat.reduceEqDiff, if_true, if_false, popLoad, loadK, isAggD, List.drop_zero, List.getElem?_toArray, List.getElem?_cons_zero, List.getElem?_cons_succ, Bool.false_eq_true, Tryd.underlying23, sz23, eq_self, true_and, and_true, e0_1, e0_35, e0_36, e0_37, dealPV]
    refine hM _ _ ?_
    clear hM M
    refine pops_to rfl fun M hM => ?_
    simp only [pop, St.eval, constSlot, upd_at, Nat.reduceEqDiff, if_true, if_false, popCall, List.toList_toArray, List.map_cons, List.map_nil, popBuiltin, popLen, lenOfSlot, List.length_map, Tryd.underlying23, eq_self, true_and, and_true, str_list, str_size, str_app, str_cut, str_get, e0_1, e0_35, e0_36, e0_37, dealPV, List.length_map]
    refine hM _ _ ?_
    clear hM M
    refine pops_mv (.inl rfl) rfl (by simp only [St.eval, constSlot] <;> rfl) ?_
    refine pops_done (hR32 _ ?_)
    clear hR32 R32
    try simp only [thenK, scopeK]
    refine hN31 _ ?_
    clear hN31 N31
    refine pwp_block ?_
    refine pwp_loop (fun k σ => ∃ (i : Nat), ∃ (sl : Slot), (k = d.refs.length - i) ∧ (i ≤ d.refs.length) ∧ (Keeps h σ.hp ∧ RowIs 9 1 h σ.hp sl (pstrs ((d.refs.take i).map (·.1)))) ∧ (σ.env 1 = .sv (.one (.rop (dealPV d)))) ∧ (σ.env 48 = .sv (.one (.ro false 2 (d.refs.map refPV)))) ∧ (σ.env 49 = .sv (.one (pint (d.refs.length : Nat)))) ∧ (σ.env 50 = .sv (.one (pint (i : Nat)))) ∧ (σ.env 6 = sl)) _ ⟨_, .refl _ _, 0, (.sv (.one (.val (.slice none 0 0)))), rfl, ?_⟩ ?_
    · exact ⟨Nat.zero_le _, ⟨Same.keeps sl0, .nil _ _ _ _⟩, by simp only [upd_at, Nat.reduceEqDiff, if_true, if_false, e0_1, e0_35, e0_36, e0_37, dealPV], by simp only [upd_at, Nat.reduceEqDiff, if_true, if_false, e0_1, e0_35, e0_36, e0_37, dealPV], by simp only [upd_at, Nat.reduceEqDiff, if_true, if_false, e0_1, e0_35, e0_36, e0_37, dealPV], by simp only [upd_at, Nat.reduceEqDiff, if_true, if_false] <;> rfl, by simp only [upd_at, Nat.reduceEqDiff, if_true, if_false] <;> rfl⟩
    ·rintro k ⟨e, hp1⟩ ⟨i, sl, hk1, hx1_0, sl1, e1_1, e1_48, e1_49, e1_50, e1_6⟩
     simp only at sl1 e1_1 e1_48 e1_49 e1_50 e1_6
     obtain ⟨hk0, ho⟩ := sl1
     refine pwp_hpok fun hok1 => ?_
     simp only at hok1
     refine pwp_then fun N33 hN33 => ?_
     refine pwp_reg fun R34 hR34 => ?_
     refine pops_to rfl fun M hM => ?_
     simp only [pop, St.eval, constSlot, upd_at, Nat.reduceEqDiff, if_true, if_false, popBin, binK, intK, strK, eqK, eq_self, true_and, and_true, e1_1, e1_48, e1_49, e1_50, e1_6, dealPV]
     refine hM _ _ ?_
     clear hM M
     refine pops_done (hR34 _ ?_)
     clear hR34 R34
     try simp only [thenK, scopeK]
     refine hN33 _ ?_
     clear hN33 N33
     refine pwp_then fun N35 hN35 => ?_
     refine pwp_cond (by simp only [St.eval, upd_at, Nat.reduceEqDiff, if_true, if_false, e1_1, e1_48, e1_49, e1_50, e1_6, dealPV] <;> rfl) (fun c51 => ?_) (fun c51 => ?_)
     ·skip
      have hi : i < d.refs.length := by have := of_decide_eq_true c51; omega
      obtain ⟨x, hx⟩ : ∃ x, d.refs[i]? = some x := ⟨_, List.getElem?_eq_getElem hi⟩
      have hget : (d.refs.map refPV)[i]? = some [pstr x.1, pint x.2] := by simp only [List.getElem?_map, hx, Option.map_some]
      have hrs := refs_step hx
      refine pwp_skip ?_
      try simp only [thenK, scopeK]
      refine hN35 _ ?_
      clear hN35 N35
      refine pwp_then fun N36 hN36 => ?_
      refine pwp_block ?_
      refine pwp_then fun N37 hN37 => ?_
      refine pwp_reg fun R38 hR38 => ?_
      refine pops_to rfl fun M hM => ?_
      simp only [pop, St.eval, constSlot, upd_at, Nat.reduceEqDiff, if_true, if_false, popIndexAddr, Tryd.underlying23, sz38, eq_self, true_and, and_true, str_list, str_size, str_app, str_cut, str_get, e1_1, e1_48, e1_49, e1_50, e1_6, dealPV, hget, Int.toNat_natCast]
      refine ⟨Int.natCast_nonneg _, hM _ _ ?_⟩
      clear hM M
      refine pops_to rfl fun M hM => ?_
      simp only [pop, St.eval, constSlot, upd_at, Nat.reduceEqDiff, if_true, if_false, List.length_cons, List.length_nil, Nat.zero_add, Nat.reduceAdd, Nat.reduceLeDiff, List.take_zero, List.take_succ_cons, List.take_nil, List.drop_succ_cons, List.drop_zero, List.drop_nil, List.nil_append, List.cons_append, List.append_nil, and_self, List.getElem?_cons_zero, List.getElem?_cons_succ, List.set_cons_zero, List.set_cons_succ, Option.some.injEq, popLoad, loadK, isAggD, List.drop_zero, List.getElem?_toArray, List.getElem?_cons_zero, List.getElem?_cons_succ, Bool.false_eq_true, Tryd.underlying38, sz38, eq_self, true_and, and_true, e1_1, e1_48, e1_49, e1_50, e1_6, dealPV]
      refine hM _ _ ?_
      clear hM M
      refine pops_var (hpOk.same hok1 (Same.refl _)) rfl ze38 (zs := [PV.val (.string ⟨#[]⟩), PV.val (.int .i64 0)]) (by kernel_rfl) (by simp) (by simp only [St.eval, constSlot, slotCells, upd_at, Nat.reduceEqDiff, if_true, if_false, e1_1, e1_48, e1_49, e1_50, e1_6, dealPV] <;> rfl) (by rfl) (by exact Nat.succ_pos _) (by rw [sz38]; rfl) (fun hv39 sv39 => ?_)
      refine pops_done (hR38 _ ?_)
      clear hR38 R38
      try simp only [thenK, scopeK]
      refine hN37 _ ?_
      clear hN37 N37
      refine pwp_reg fun R40 hR40 => ?_
      refine pops_mv (.inl rfl) rfl (by simp only [St.eval, upd_at, Nat.reduceEqDiff, if_true, if_false, e1_1, e1_48, e1_49, e1_50, e1_6, dealPV] <;> rfl) ?_
      refine pops_to rfl fun M hM => ?_
      simp only [pop, St.eval, constSlot, upd_at, Nat.reduceEqDiff, if_true, if_false, popFieldAddr, fieldOf, List.drop_succ_cons, List.drop_zero, List.getElem?_toArray, List.getElem?_cons_zero, List.getElem?_cons_succ, Tryd.underlying38, sz9, e1_1, e1_48, e1_49, e1_50, e1_6, dealPV]
      refine ⟨⟨_, rfl⟩, hM _ _ ?_⟩
      clear hM M
      refine pops_to rfl fun M hM => ?_
      simp only [pop, St.eval, constSlot, upd_at, Nat.reduceEqDiff, if_true, if_false, popLoad, loadK, isAggD, List.drop_zero, List.getElem?_toArray, List.getElem?_cons_zero, List.getElem?_cons_succ, Bool.false_eq_true, Tryd.underlying9, sz9, eq_self, true_and, and_true, e1_1, e1_48, e1_49, e1_50, e1_6, dealPV]
      refine hM _ _ ?_
      clear hM M
      refine pops_to rfl fun M hM => ?_
      simp only [pop, St.eval, constSlot, upd_at, Nat.reduceEqDiff, if_true, if_false, popBuildSlice, slotCells, List.toList_toArray, List.map_cons, List.map_nil, List.mapM_cons, List.mapM_nil, Option.bind_eq_bind, Option.bind_some, Option.pure_def, Tryd.underlying24, sz9, ze9, by9, eq_self, true_and, and_true, str_list, str_size, str_app, str_cut, str_get, e1_1, e1_48, e1_49, e1_50, e1_6, dealPV]
      refine ⟨by decide, by decide, rfl, rfl, by simp, by decide, rfl, hM _ _ ?_⟩
      clear hM M
      refine pops_to rfl fun M hM => ?_
      simp only [pop, St.eval, constSlot, upd_at, Nat.reduceEqDiff, if_true, if_false, popCall, List.toList_toArray, List.map_cons, List.map_nil, popBuiltin, eq_self, true_and, and_true, str_list, str_size, str_app, str_cut, str_get, e1_1, e1_48, e1_49, e1_50, e1_6, dealPV]
      refine row_app (ys := pstrs [x.1]) hb Tryd.underlying24 sz9 by9 ze9 rfl (by decide) (ho.same sv39) (hk0.trans (Same.keeps sv39)) rfl (.inr rfl) ⟨by simp only [pstrs_len, List.length_map, List.length_take, List.length_cons, List.length_nil]; omega, by simp only [pstrs_len, List.length_map, List.length_take, List.length_cons, List.length_nil]; omega⟩ fun sl2 hp2 ho2 hk2 => hM _ _ ?_
      clear hM M
      refine pops_mv (.inr rfl) rfl (by simp only [St.eval, upd_at, Nat.reduceEqDiff, if_true, if_false, e1_1, e1_48, e1_49, e1_50, e1_6, dealPV] <;> rfl) ?_
      refine pops_done (hR40 _ ?_)
      clear hR40 R40
      try simp only [blockK, thenK, scopeK]
      try simp only [thenK, scopeK]
      refine hN36 _ ?_
      clear hN36 N36
      refine pwp_reg fun R41 hR41 => ?_
      refine pops_to rfl fun M hM => ?_
      simp only [pop, St.eval, constSlot, upd_at, Nat.reduceEqDiff, if_true, if_false, popBin, binK, intK, strK, eqK, eq_self, true_and, and_true, e1_1, e1_48, e1_49, e1_50, e1_6, dealPV]
      refine hM _ _ ?_
      clear hM M
      refine pops_mv (.inl rfl) rfl (by simp only [St.eval, upd_at, Nat.reduceEqDiff, if_true, if_false, e1_1, e1_48, e1_49, e1_50, e1_6, dealPV] <;> rfl) ?_
      refine pops_done (hR41 _ ?_)
      clear hR41 R41
      try simp only [thenK, scopeK]
      exact ⟨_, by omega, _, .refl _ _, i + 1, sl2, rfl, by omega, ⟨hk2, by rw [hrs, pstrs_app]; exact ho2⟩, by simp only [upd_at, Nat.reduceEqDiff, if_true, if_false, e1_1, e1_48, e1_49, e1_50, e1_6, dealPV], by simp only [upd_at, Nat.reduceEqDiff, if_true, if_false, e1_1, e1_48, e1_49, e1_50, e1_6, dealPV], by simp only [upd_at, Nat.reduceEqDiff, if_true, if_false, e1_1, e1_48, e1_49, e1_50, e1_6, dealPV], by simp only [upd_at, Nat.reduceEqDiff, if_true, if_false, e1_50]; rw [wrap_succ (by omega)], by simp only [upd_at, Nat.reduceEqDiff, if_true, if_false, e1_1, e1_48, e1_49, e1_50, e1_6, dealPV]⟩
     ·skip
      have hi := of_decide_eq_false c51
      refine pwp_exit ?_
      try simp only [thenK, blockK, scopeK, if_true, Nat.reduceEqDiff, if_false]
      clear hN35 N35
      try simp only [blockK, scopeK, if_true, Nat.reduceEqDiff, if_false, thenK]
      try simp only [thenK, scopeK]
      refine hN30 _ ?_
      clear hN30 N30
      refine pwp_then fun N42 hN42 => ?_
      refine pwp_then fun N43 hN43 => ?_
      rw [List.take_of_length_le (show d.refs.length ≤ i by omega)] at ho
      refine pwp_freezeRow 6 (by simp only [upd_at, Nat.reduceEqDiff, if_true, if_false, e1_6]) ho hb hk0 fun hp9 hk9 => ?_
      refine pwp_reg fun R44 hR44 => ?_
      refine pops_mv (.inl rfl) rfl (by simp only [St.eval, upd_at, Nat.reduceEqDiff, if_true, if_false, e1_1, e1_48, e1_49, e1_50, e1_6, dealPV] <;> rfl) ?_
      refine pops_to rfl fun M hM => ?_
      simp only [pop, St.eval, constSlot, upd_at, Nat.reduceEqDiff, if_true, if_false, popFieldAddr, fieldOf, List.drop_succ_cons, List.drop_zero, List.getElem?_toArray, List.getElem?_cons_zero, List.getElem?_cons_succ, Tryd.underlying26, sz24, e1_1, e1_48, e1_49, e1_50, e1_6, dealPV]
      refine ⟨⟨_, rfl⟩, hM _ _ ?_⟩
      clear hM M
      refine pops_to rfl fun M hM => ?_
      simp only [pop, St.eval, constSlot, upd_at, Nat.reduceEqDiff, if_true, if_false, popLoad, loadK, isAggD, List.drop_zero, List.getElem?_toArray, List.getElem?_cons_zero, List.getElem?_cons_succ, Bool.false_eq_true, Tryd.underlying24, sz24, eq_self, true_and, and_true, e1_1, e1_48, e1_49, e1_50, e1_6, dealPV]
      refine hM _ _ ?_
      clear hM M
      refine pops_to rfl fun M hM => ?_
      simp only [pop, St.eval, constSlot, upd_at, Nat.reduceEqDiff, if_true, if_false, popFieldAddr, fieldOf, List.drop_succ_cons, List.drop_zero, List.getElem?_toArray, List.getElem?_cons_zero, List.getElem?_cons_succ, Tryd.underlying26, sz24, e1_1, e1_48, e1_49, e1_50, e1_6, dealPV]
      refine ⟨⟨_, rfl⟩, hM _ _ ?_⟩
      clear hM M
      refine pops_to rfl fun M hM => ?_
      simp only [pop, St.eval, constSlot, upd_at, Nat.reduceEqDiff, if_true, if_false, popLoad, loadK, isAggD, List.drop_zero, List.getElem?_toArray, List.getElem?_cons_zero, List.getElem?_cons_succ, Bool.false_eq_true, Tryd.underlying24, sz24, eq_self, true_and, and_true, e1_1, e1_48, e1_49, e1_50, e1_6, dealPV]
      refine hM _ _ ?_
      clear hM M
      refine pops_to rfl fun M hM => ?_
      simp only [pop, St.eval, constSlot, upd_at, Nat.reduceEqDiff, if_true, if_false, popBuildSlice, slotCells, List.toList_toArray, List.map_cons, List.map_nil, List.mapM_cons, List.mapM_nil, Option.bind_eq_bind, Option.bind_some, Option.pure_def, Tryd.underlying58, sz24, ze24, by24, eq_self, true_and, and_true, str_list, str_size, str_app, str_cut, str_get, e1_1, e1_48, e1_49, e1_50, e1_6, dealPV]
      refine ⟨by decide, by decide, rfl, rfl, by simp, by decide, rfl, hM _ _ ?_⟩
      clear hM M
      refine pops_to rfl fun M hM => ?_
      simp only [pop, St.eval, constSlot, upd_at, Nat.reduceEqDiff, if_true, if_false, popCall, List.toList_toArray, List.map_cons, List.map_nil, svs, List.mapM_cons, List.mapM_nil, Option.bind_eq_bind, Option.bind_some, Option.pure_def, List.append_nil, List.cons_append, List.nil_append, str_size, e1_1, e1_48, e1_49, e1_50, e1_6, dealPV]
      refine PFun.use (concat_fun W0 true [d.refs.map (·.1), d.eqs, d.cons] (by simp) (by simp; omega)) fun h2 s2 => hM _ _ ?_
      replace s2 := Same.trans (Same.refl _) s2
      clear hM M
      refine pops_to rfl fun M hM => ?_
      simp only [pop, St.eval, constSlot, upd_at, Nat.reduceEqDiff, if_true, if_false, popCall, List.toList_toArray, List.map_cons, List.map_nil, popBuiltin, popLen, lenOfSlot, List.length_map, Tryd.underlying24, eq_self, true_and, and_true, str_list, str_size, str_app, str_cut, str_get, e1_1, e1_48, e1_49, e1_50, e1_6, dealPV, pstrs_len]
      refine hM _ _ ?_
      clear hM M
      refine pops_mv (.inl rfl) rfl (by simp only [St.eval, constSlot] <;> rfl) ?_
      refine pops_done (hR44 _ ?_)
      clear hR44 R44
      try simp only [thenK, scopeK]
      refine hN43 _ ?_
      clear hN43 N43
      refine pwp_block ?_
      refine pwp_loop (fun k σ => ∃ (i : Nat), (k = ([d.refs.map (·.1), d.eqs, d.cons].flatten).length - i) ∧ (i ≤ ([d.refs.map (·.1), d.eqs, d.cons].flatten).length) ∧ (∀ y ∈ ([d.refs.map (·.1), d.eqs, d.cons].flatten).take i, isPathB y = true) ∧ (([d.refs.map (·.1), d.eqs, d.cons].flatten).length ≤ 15000) ∧ (Keeps h σ.hp) ∧ (σ.env 1 = .sv (.one (.rop (dealPV d)))) ∧ (σ.env 66 = .sv (.one (.ro false 1 (pstrs ([d.refs.map (·.1), d.eqs, d.cons].flatten))))) ∧ (σ.env 67 = .sv (.one (pint (([d.refs.map (·.1), d.eqs, d.cons].flatten).length : Nat)))) ∧ (σ.env 68 = .sv (.one (pint (i : Nat))))) _ ⟨_, .refl _ _, 0, rfl, ?_⟩ ?_
      · exact ⟨Nat.zero_le _, by simp, by simp; omega, hk9.trans (Same.keeps s2), by simp only [upd_at, Nat.reduceEqDiff, if_true, if_false, e1_1, e1_48, e1_49, e1_50, e1_6, dealPV], by simp only [upd_at, Nat.reduceEqDiff, if_true, if_false, e1_1, e1_48, e1_49, e1_50, e1_6, dealPV], by simp only [upd_at, Nat.reduceEqDiff, if_true, if_false, e1_1, e1_48, e1_49, e1_50, e1_6, dealPV], by simp only [upd_at, Nat.reduceEqDiff, if_true, if_false]; rfl⟩
      ·rintro k ⟨e, hp2⟩ ⟨i, hk2, hx2_0, hx2_1, hx2_2, sl2, e2_1, e2_66, e2_67, e2_68⟩
       simp only at sl2 e2_1 e2_66 e2_67 e2_68
       have hk0 := sl2
       refine pwp_hpok fun hok2 => ?_
       simp only at hok2
       refine pwp_then fun N45 hN45 => ?_
       refine pwp_reg fun R46 hR46 => ?_
       refine pops_to rfl fun M hM => ?_
       simp only [pop, St.eval, constSlot, upd_at, Nat.reduceEqDiff, if_true, if_false, popBin, binK, intK, strK, eqK, eq_self, true_and, and_true, e2_1, e2_66, e2_67, e2_68, dealPV]
       refine hM _ _ ?_
       clear hM M
       refine pops_done (hR46 _ ?_)
       clear hR46 R46
       try simp only [thenK, scopeK]
       refine hN45 _ ?_
       clear hN45 N45
       refine pwp_then fun N47 hN47 => ?_
       refine pwp_cond (by simp only [St.eval, upd_at, Nat.reduceEqDiff, if_true, if_false, e2_1, e2_66, e2_67, e2_68, dealPV] <;> rfl) (fun c69 => ?_) (fun c69 => ?_)
       ·skip
        have hi : i < ([d.refs.map (·.1), d.eqs, d.cons].flatten).length := by have := of_decide_eq_true c69; omega
        obtain ⟨x, hx⟩ : ∃ x, ([d.refs.map (·.1), d.eqs, d.cons].flatten)[i]? = some x := ⟨_, List.getElem?_eq_getElem hi⟩
        have hget : (pstrs ([d.refs.map (·.1), d.eqs, d.cons].flatten))[i]? = some [pstr x] := by simp only [List.getElem?_map, hx, Option.map_some]
        refine pwp_skip ?_
        try simp only [thenK, scopeK]
        refine hN47 _ ?_
        clear hN47 N47
        refine pwp_then fun N48 hN48 => ?_
        refine pwp_block ?_
        refine pwp_then fun N49 hN49 => ?_
        refine pwp_reg fun R50 hR50 => ?_
        refine pops_to rfl fun M hM => ?_
        simp only [pop, St.eval, constSlot, upd_at, Nat.reduceEqDiff, if_true, if_false, popIndexAddr, Tryd.underlying24, sz9, eq_self, true_and, and_true, str_list, str_size, str_app, str_cut, str_get, e2_1, e2_66, e2_67, e2_68, dealPV, hget, Int.toNat_natCast]
        refine ⟨Int.natCast_nonneg _, hM _ _ ?_⟩
        clear hM M
        refine pops_to rfl fun M hM => ?_
        simp only [pop, St.eval, constSlot, upd_at, Nat.reduceEqDiff, if_true, if_false, popLoad, loadK, isAggD, List.drop_zero, List.getElem?_toArray, List.getElem?_cons_zero, List.getElem?_cons_succ, Bool.false_eq_true, Tryd.underlying9, sz9, eq_self, true_and, and_true, e2_1, e2_66, e2_67, e2_68, dealPV]
        refine hM _ _ ?_
        clear hM M
        refine pops_mv (.inr rfl) rfl (by simp only [St.eval, upd_at, Nat.reduceEqDiff, if_true, if_false, e2_1, e2_66, e2_67, e2_68, dealPV] <;> rfl) ?_
        refine pops_done (hR50 _ ?_)
        clear hR50 R50
        try simp only [thenK, scopeK]
        refine hN49 _ ?_
        clear hN49 N49
        refine pwp_then fun N51 hN51 => ?_
        refine pwp_reg fun R52 hR52 => ?_
        refine pops_mv (.inl rfl) rfl (by simp only [St.eval, upd_at, Nat.reduceEqDiff, if_true, if_false, e2_1, e2_66, e2_67, e2_68, dealPV] <;> rfl) ?_
        refine pops_to rfl fun M hM => ?_
        simp only [pop, St.eval, constSlot, upd_at, Nat.reduceEqDiff, if_true, if_false, popCall, List.toList_toArray, List.map_cons, List.map_nil, svs, List.mapM_cons, List.mapM_nil, Option.bind_eq_bind, Option.bind_some, Option.pure_def, List.append_nil, List.cons_append, List.nil_append, str_size, e2_1, e2_66, e2_67, e2_68, dealPV]
        refine PFun.use (check_fun W0 hm isNameB x (fun y _ => isName_fun W0 y)) fun h3 s3 => hM _ _ ?_
        replace s3 := Same.trans (Same.refl _) s3
        clear hM M
        refine pops_mv (.inr rfl) rfl (by simp only [St.eval, upd_at, Nat.reduceEqDiff, if_true, if_false, e2_1, e2_66, e2_67, e2_68, dealPV] <;> rfl) ?_
        refine pops_done (hR52 _ ?_)
        clear hR52 R52
        try simp only [thenK, scopeK]
        refine hN51 _ ?_
        clear hN51 N51
        refine pwp_then fun N53 hN53 => ?_
        refine pwp_reg fun R54 hR54 => ?_
        refine pops_mv (.inl rfl) rfl (by simp only [St.eval, upd_at, Nat.reduceEqDiff, if_true, if_false, e2_1, e2_66, e2_67, e2_68, dealPV] <;> rfl) ?_
        refine pops_to rfl fun M hM => ?_
        simp only [pop, St.eval, constSlot, upd_at, Nat.reduceEqDiff, if_true, if_false, popBin, binK, intK, strK, eqK, Tryd.underlying28, isPtr, eq_self, true_and, and_true, e2_1, e2_66, e2_67, e2_68, dealPV]
        refine hM _ _ ?_
        clear hM M
        refine pops_done (hR54 _ ?_)
        clear hR54 R54
        try simp only [thenK, scopeK]
        refine hN53 _ ?_
        clear hN53 N53
        refine pwp_cond (by simp only [St.eval, upd_at, Nat.reduceEqDiff, if_true, if_false, e2_1, e2_66, e2_67, e2_68, dealPV] <;> rfl) (fun c75 => ?_) (fun c75 => ?_)
        ·skip
         rw [checkR_eq] at c75
         have hbad : isPathB x = false := by simpa using c75
         refine pwp_then fun N55 hN55 => ?_
         refine pwp_reg fun R56 hR56 => ?_
         refine pops_mv (.inl rfl) rfl (by simp only [St.eval, upd_at, Nat.reduceEqDiff, if_true, if_false, e2_1, e2_66, e2_67, e2_68, dealPV] <;> rfl) ?_
         refine pops_mv (.inr rfl) rfl (by simp only [St.eval, upd_at, Nat.reduceEqDiff, if_true, if_false, e2_1, e2_66, e2_67, e2_68, dealPV] <;> rfl) ?_
         refine pops_done (hR56 _ ?_)
         clear hR56 R56
         try simp only [thenK, scopeK]
         refine hN55 _ ?_
         clear hN55 N55
         refine pwp_ret ?_
         simp only [thenK, blockK, scopeK, bodyK]
         clear hN48 N48 hN42 N42
         exact ⟨_, rfl, by
           have e : pathsE ([d.refs.map (·.1), d.eqs, d.cons].flatten) = 1 := pathsE_bad (List.mem_of_getElem? hx) hbad
           rw [dealE_path hbig hacts, show d.refs.map (·.1) ++ (d.eqs ++ d.cons) = [d.refs.map (·.1), d.eqs, d.cons].flatten by simp, e]
           rw [checkR_eq, hbad]
           exact endKeeps1 (hk0.trans (Same.keeps s3)) rfl⟩
        ·skip
         rw [checkR_eq] at c75
         have hgood : isPathB x = true := by simpa using c75
         refine pwp_skip ?_
         try simp only [blockK, thenK, scopeK]
         try simp only [thenK, scopeK]
         refine hN48 _ ?_
         clear hN48 N48
         refine pwp_reg fun R57 hR57 => ?_
         refine pops_to rfl fun M hM => ?_
         simp only [pop, St.eval, constSlot, upd_at, Nat.reduceEqDiff, if_true, if_false, popBin, binK, intK, strK, eqK, eq_self, true_and, and_true, e2_1, e2_66, e2_67, e2_68, dealPV]
         refine hM _ _ ?_
         clear hM M
         refine pops_mv (.inl rfl) rfl (by simp only [St.eval, upd_at, Nat.reduceEqDiff, if_true, if_false, e2_1, e2_66, e2_67, e2_68, dealPV] <;> rfl) ?_
         refine pops_done (hR57 _ ?_)
         clear hR57 R57
         try simp only [thenK, scopeK]
         exact ⟨_, by omega, _, .refl _ _, i + 1, rfl, by omega, take_next hx2_1 hx hgood, by omega, hk0.trans (Same.keeps s3), by simp only [upd_at, Nat.reduceEqDiff, if_true, if_false, e2_1, e2_66, e2_67, e2_68, dealPV], by simp only [upd_at, Nat.reduceEqDiff, if_true, if_false, e2_1, e2_66, e2_67, e2_68, dealPV], by simp only [upd_at, Nat.reduceEqDiff, if_true, if_false, e2_1, e2_66, e2_67, e2_68, dealPV], by simp only [upd_at, Nat.reduceEqDiff, if_true, if_false, e2_68]; rw [wrap_succ (by omega)]⟩
       ·skip
        have hi := of_decide_eq_false c69
        refine pwp_exit ?_
        try simp only [thenK, blockK, scopeK, if_true, Nat.reduceEqDiff, if_false]
        clear hN47 N47
        try simp only [blockK, scopeK, if_true, Nat.reduceEqDiff, if_false, thenK]
        try simp only [thenK, scopeK]
        refine hN42 _ ?_
        clear hN42 N42
        refine pwp_then fun N58 hN58 => ?_
        refine pwp_reg fun R59 hR59 => ?_
        refine pops_mv (.inr rfl) rfl (by simp only [St.eval, constSlot] <;> rfl) ?_
        refine pops_done (hR59 _ ?_)
        clear hR59 R59
        try simp only [thenK, scopeK]
        refine hN58 _ ?_
        clear hN58 N58
        refine pwp_ret ?_
        simp only [thenK, blockK, scopeK, bodyK]
        exact ⟨_, rfl, by
          have e : pathsE ([d.refs.map (·.1), d.eqs, d.cons].flatten) = 0 := pathsE_good (by rw [List.take_of_length_le (by omega)] at hx2_1; exact hx2_1)
          rw [dealE_path hbig hacts, show d.refs.map (·.1) ++ (d.eqs ++ d.cons) = [d.refs.map (·.1), d.eqs, d.cons].flatten by simp, e]
          exact endKeeps1 (hk0.trans (Same.keeps (Same.refl _))) rfl⟩
end Go.Pw
