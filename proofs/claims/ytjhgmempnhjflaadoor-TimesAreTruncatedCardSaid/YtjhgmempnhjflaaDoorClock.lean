import Derived.Test.YtjhgmempnhjflaaDoorNames
namespace Go.Pw
open Go Go.RowKit Go.Proofs
set_option maxRecDepth 10000
set_option linter.unusedSimpArgs false
set_option linter.unusedVariables false
theorem nm16 : (Tryd.f16.name == "runtime.NumGoroutine") = false := by kernel_rfl
theorem newClock (W0 : World) (t : Int) (h : Hp) :
    PCalls Tryd.prog W0 16 [.one (pint t)] h (fun r h' => ∃ id, h.lim ≤ id ∧ r = .sv (.one (.ptr id 0 0 0)) ∧ h' = h.new id (clockBlk (clampR t))) := by
  refine pcalls1 (n := 8) Tryd.func16 rfl nm16 rfl fun hb => ?_
  refine pwp_then fun N1 hN1 => ?_
  refine pwp_reg fun R2 hR2 => ?_
  refine pops_to rfl fun M hM => ?_
  simp only [pop, St.eval, constSlot, upd_at, Nat.reduceEqDiff, if_true, if_false, eq_self, true_and, and_true, str_list, str_size, str_app, str_cut, str_get]
  refine hM _ _ ?_
  clear hM M
  refine pops_done (hR2 _ ?_)
  clear hR2 R2
  try simp only [thenK]
  refine hN1 _ ?_
  clear hN1 N1
  refine pwp_then fun N3 hN3 => ?_
  refine pwp_reg fun R4 hR4 => ?_
  refine pops_to rfl fun M hM => ?_
  simp only [pop, St.eval, constSlot, upd_at, Nat.reduceEqDiff, if_true, if_false, eq_self, true_and, and_true, str_list, str_size, str_app, str_cut, str_get]
  refine hM _ _ ?_
  clear hM M
  refine pops_to rfl fun M hM => ?_
  simp only [pop, St.eval, constSlot, upd_at, Nat.reduceEqDiff, if_true, if_false, popCall, List.toList_toArray, List.map_cons, List.map_nil, popBuiltin, eq_self, true_and, and_true, str_list, str_size, str_app, str_cut, str_get]
  refine hM _ _ ?_
  clear hM M
  refine pops_to rfl fun M hM => ?_
  simp only [pop, St.eval, constSlot, upd_at, Nat.reduceEqDiff, if_true, if_false, popCall, List.toList_toArray, List.map_cons, List.map_nil, popBuiltin, eq_self, true_and, and_true, str_list, str_size, str_app, str_cut, str_get]
  refine hM _ _ ?_
  clear hM M
  refine pops_to rfl fun M hM => ?_
  simp only [pop, St.eval, constSlot, upd_at, Nat.reduceEqDiff, if_true, if_false, fillP, slotCells, splice, List.toList_toArray, List.map_cons, List.map_nil, List.length_cons, List.length_nil, Nat.zero_add, Nat.reduceAdd, Nat.reduceLeDiff, List.take_zero, List.take_succ_cons, List.take_nil, List.drop_succ_cons, List.drop_zero, List.drop_nil, List.nil_append, List.cons_append, List.append_nil, and_self, List.getElem?_cons_zero, List.getElem?_cons_succ, List.set_cons_zero, List.set_cons_succ, Option.some.injEq, bd76, eq_self, true_and, and_true, str_list, str_size, str_app, str_cut, str_get]
  refine hM _ _ ?_
  clear hM M
  refine pops_to rfl fun M hM => ?_
  simp only [pop, St.eval, constSlot, upd_at, Nat.reduceEqDiff, if_true, if_false, popBox, slotCells, eq_self, true_and, and_true, str_list, str_size, str_app, str_cut, str_get]
  refine ⟨Nat.one_pos, fun id hid => hM _ _ ?_⟩
  clear hM M
  refine pops_to rfl fun M hM => ?_
  simp only [pop, St.eval, constSlot, upd_at, Nat.reduceEqDiff, if_true, if_false, eq_self, true_and, and_true, str_list, str_size, str_app, str_cut, str_get]
  refine hM _ _ ?_
  clear hM M
  refine pops_done (hR4 _ ?_)
  clear hR4 R4
  try simp only [thenK]
  refine hN3 _ ?_
  clear hN3 N3
  refine pwp_ret ?_
  simp only [thenK, blockK, bodyK]
  refine ⟨_, rfl, ?_⟩
  try simp only [upd_at, Nat.reduceEqDiff, if_true, if_false]
  exact ⟨_, _, .refl _ _ _, id, hid, rfl, rfl⟩

theorem nm17 : (Tryd.f17.name == "runtime.NumGoroutine") = false := by kernel_rfl
theorem now_fun (W0 : World) (id : Nat) (v : Int) (h : Hp) (hc : h.blk id = some (clockBlk v)) :
    PCalls Tryd.prog W0 17 [.one (.ptr id 0 0 0)] h (fun r h' => r = .sv (.one (pint v)) ∧ Same h h') := by
  refine pcalls1 (n := 7) Tryd.func17 rfl nm17 rfl fun hb => ?_
  refine pwp_then fun N1 hN1 => ?_
  refine pwp_reg fun R2 hR2 => ?_
  refine pops_to rfl fun M hM => ?_
  simp only [pop, St.eval, constSlot, upd_at, Nat.reduceEqDiff, if_true, if_false, eq_self, true_and, and_true, str_list, str_size, str_app, str_cut, str_get, hc]
  refine hM _ _ ?_
  clear hM M
  refine pops_done (hR2 _ ?_)
  clear hR2 R2
  try simp only [thenK]
  refine hN1 _ ?_
  clear hN1 N1
  refine pwp_then fun N3 hN3 => ?_
  refine pwp_reg fun R4 hR4 => ?_
  refine pops_to rfl fun M hM => ?_
  simp only [pop, St.eval, constSlot, upd_at, Nat.reduceEqDiff, if_true, if_false, eq_self, true_and, and_true, str_list, str_size, str_app, str_cut, str_get, hc]
  refine hM _ _ ?_
  clear hM M
  refine pops_to rfl fun M hM => ?_
  simp only [pop, St.eval, constSlot, upd_at, Nat.reduceEqDiff, if_true, if_false, eq_self, true_and, and_true, str_list, str_size, str_app, str_cut, str_get, hc]
  refine hM _ _ ?_
  clear hM M
  refine pops_to rfl fun M hM => ?_
  simp only [pop, St.eval, constSlot, upd_at, Nat.reduceEqDiff, if_true, if_false, popFieldAddr, fieldOf, List.getElem?_toArray, List.getElem?_cons_zero, List.getElem?_cons_succ, Tryd.underlying76, sz3, eq_self, true_and, and_true, str_list, str_size, str_app, str_cut, str_get, hc, clockBlk, List.length_cons, List.length_nil, Nat.zero_add, Nat.reduceAdd, Nat.reduceLeDiff, List.take_zero, List.take_succ_cons, List.take_nil, List.drop_succ_cons, List.drop_zero, List.drop_nil, List.nil_append, List.cons_append, List.append_nil, and_self, List.getElem?_cons_zero, List.getElem?_cons_succ, List.set_cons_zero, List.set_cons_succ, Option.some.injEq]
  refine ⟨⟨0, rfl⟩, ?_⟩
  refine hM _ _ ?_
  clear hM M
  refine pops_to rfl fun M hM => ?_
  simp only [pop, St.eval, constSlot, upd_at, Nat.reduceEqDiff, if_true, if_false, popLoad, loadK, isAggD, List.drop_zero, List.getElem?_toArray, List.getElem?_cons_zero, List.getElem?_cons_succ, Bool.false_eq_true, Tryd.underlying3, sz3, eq_self, true_and, and_true, str_list, str_size, str_app, str_cut, str_get, hc, clockBlk, List.length_cons, List.length_nil, Nat.zero_add, Nat.reduceAdd, Nat.reduceLeDiff, List.take_zero, List.take_succ_cons, List.take_nil, List.drop_succ_cons, List.drop_zero, List.drop_nil, List.nil_append, List.cons_append, List.append_nil, and_self, List.getElem?_cons_zero, List.getElem?_cons_succ, List.set_cons_zero, List.set_cons_succ, Option.some.injEq]
  refine hM _ _ ?_
  clear hM M
  refine pops_to rfl fun M hM => ?_
  simp only [pop, St.eval, constSlot, upd_at, Nat.reduceEqDiff, if_true, if_false, eq_self, true_and, and_true, str_list, str_size, str_app, str_cut, str_get, hc]
  refine hM _ _ ?_
  clear hM M
  refine pops_done (hR4 _ ?_)
  clear hR4 R4
  try simp only [thenK]
  refine hN3 _ ?_
  clear hN3 N3
  refine pwp_ret ?_
  simp only [thenK, blockK, bodyK]
  refine ⟨_, rfl, ?_⟩
  try simp only [upd_at, Nat.reduceEqDiff, if_true, if_false, hc]
  exact ⟨_, _, .refl _ _ _, rfl, .refl _⟩

theorem nm18 : (Tryd.f18.name == "runtime.NumGoroutine") = false := by kernel_rfl
theorem pass_fun (W0 : World) (id : Nat) (v d : Int) (h : Hp) (hv : 0 ≤ v ∧ v ≤ 4611686018427387904) (hd : inI64 d) (hc : h.blk id = some (clockBlk v)) :
    PCalls Tryd.prog W0 18 [.one (.ptr id 0 0 0), .one (pint d)] h (fun r h' => r = .tup [] ∧ Keeps ⟨fun j => if j = id then none else h.blk j, h.lim⟩ h' ∧ h'.blk id = some (clockBlk (passR v d))) := by
  refine pcalls2 (n := 27) Tryd.func18 rfl nm18 rfl fun hb => ?_
  refine pwp_then fun N1 hN1 => ?_
  refine pwp_reg fun R2 hR2 => ?_
  refine pops_to rfl fun M hM => ?_
  simp only [pop, St.eval, constSlot, upd_at, Nat.reduceEqDiff, if_true, if_false, eq_self, true_and, and_true, str_list, str_size, str_app, str_cut, str_get, hc]
  refine hM _ _ ?_
  clear hM M
  refine pops_to rfl fun M hM => ?_
  simp only [pop, St.eval, constSlot, upd_at, Nat.reduceEqDiff, if_true, if_false, popBin, binK, intK, strK, eqK, eq_self, true_and, and_true, str_list, str_size, str_app, str_cut, str_get, hc]
  refine hM _ _ ?_
  clear hM M
  refine pops_to rfl fun M hM => ?_
  simp only [pop, St.eval, constSlot, upd_at, Nat.reduceEqDiff, if_true, if_false, eq_self, true_and, and_true, str_list, str_size, str_app, str_cut, str_get, hc]
  refine hM _ _ ?_
  clear hM M
  refine pops_split 6 (by simp only [upd_at, Nat.reduceEqDiff, if_true, if_false, hc] <;> rfl) (fun g6_0 => ?_) (fun g6_0 => ?_)
  · skip
    refine pops_do rfl rfl (by simp only [upd_at, Nat.reduceEqDiff, if_true, if_false, hc, g6_0]) fun M hM => ?_
    simp only [pop, St.eval, constSlot, upd_at, Nat.reduceEqDiff, if_true, if_false, eq_self, true_and, and_true, str_list, str_size, str_app, str_cut, str_get, hc, g6_0]
    refine hM _ _ ?_
    clear hM M
    refine pops_do rfl rfl (by simp only [upd_at, Nat.reduceEqDiff, if_true, if_false, hc, g6_0]) fun M hM => ?_
    simp only [pop, St.eval, constSlot, upd_at, Nat.reduceEqDiff, if_true, if_false, eq_self, true_and, and_true, str_list, str_size, str_app, str_cut, str_get, hc, g6_0]
    refine hM _ _ ?_
    clear hM M
    refine pops_do rfl rfl (by simp only [upd_at, Nat.reduceEqDiff, if_true, if_false, hc, g6_0]) fun M hM => ?_
    simp only [pop, St.eval, constSlot, upd_at, Nat.reduceEqDiff, if_true, if_false, popFieldAddr, fieldOf, List.getElem?_toArray, List.getElem?_cons_zero, List.getElem?_cons_succ, Tryd.underlying76, sz3, eq_self, true_and, and_true, str_list, str_size, str_app, str_cut, str_get, hc, g6_0, clockBlk, List.length_cons, List.length_nil, Nat.zero_add, Nat.reduceAdd, Nat.reduceLeDiff, List.take_zero, List.take_succ_cons, List.take_nil, List.drop_succ_cons, List.drop_zero, List.drop_nil, List.nil_append, List.cons_append, List.append_nil, and_self, List.getElem?_cons_zero, List.getElem?_cons_succ, List.set_cons_zero, List.set_cons_succ, Option.some.injEq]
    refine ⟨⟨0, rfl⟩, ?_⟩
    refine hM _ _ ?_
    clear hM M
    refine pops_do rfl rfl (by simp only [upd_at, Nat.reduceEqDiff, if_true, if_false, hc, g6_0]) fun M hM => ?_
    simp only [pop, St.eval, constSlot, upd_at, Nat.reduceEqDiff, if_true, if_false, popLoad, loadK, isAggD, List.drop_zero, List.getElem?_toArray, List.getElem?_cons_zero, List.getElem?_cons_succ, Bool.false_eq_true, Tryd.underlying3, sz3, eq_self, true_and, and_true, str_list, str_size, str_app, str_cut, str_get, hc, g6_0, clockBlk, List.length_cons, List.length_nil, Nat.zero_add, Nat.reduceAdd, Nat.reduceLeDiff, List.take_zero, List.take_succ_cons, List.take_nil, List.drop_succ_cons, List.drop_zero, List.drop_nil, List.nil_append, List.cons_append, List.append_nil, and_self, List.getElem?_cons_zero, List.getElem?_cons_succ, List.set_cons_zero, List.set_cons_succ, Option.some.injEq]
    refine hM _ _ ?_
    clear hM M
    refine pops_do rfl rfl (by simp only [upd_at, Nat.reduceEqDiff, if_true, if_false, hc, g6_0]) fun M hM => ?_
    simp only [pop, St.eval, constSlot, upd_at, Nat.reduceEqDiff, if_true, if_false, popBin, binK, intK, strK, eqK, eq_self, true_and, and_true, str_list, str_size, str_app, str_cut, str_get, hc, g6_0]
    refine hM _ _ ?_
    clear hM M
    refine pops_to rfl fun M hM => ?_
    simp only [pop, St.eval, constSlot, upd_at, Nat.reduceEqDiff, if_true, if_false, popIf, true_implies, false_implies, Bool.true_eq_false, Bool.false_eq_true, reduceCtorEq, eq_self, true_and, and_true, str_list, str_size, str_app, str_cut, str_get, hc, g6_0]
    refine hM _ _ ?_
    clear hM M
    refine pops_done (hR2 _ ?_)
    clear hR2 R2
    try simp only [thenK]
    refine hN1 _ ?_
    clear hN1 N1
    refine pwp_cond (by simp only [St.eval, upd_at, Nat.reduceEqDiff, if_true, if_false, hc, g6_0] <;> rfl) (fun c12 => ?_) (fun c12 => ?_)
    · skip
      refine pwp_dreg 14 mixed (by decide +kernel) fun R3 hR3 => ?_
      simp only [List.take_succ_cons, List.take_zero, List.drop_succ_cons, List.drop_zero]
      apply lex_to
      · rfl
      · intro h' s' M hM
        simp only [pop, St.eval, constSlot, upd_at, Nat.reduceEqDiff, if_true, if_false, eq_self, true_and, and_true, str_list, str_size, str_app, str_cut, str_get, hc, g6_0, s'.1]
        exact hM _ (.refl _)
      apply lex_to
      · rfl
      · intro h' s' M hM
        simp only [pop, St.eval, constSlot, upd_at, Nat.reduceEqDiff, if_true, if_false, eq_self, true_and, and_true, str_list, str_size, str_app, str_cut, str_get, hc, g6_0, s'.1]
        exact hM _ (.refl _)
      apply lex_to
      · rfl
      · intro h' s' M hM
        simp only [pop, St.eval, constSlot, upd_at, Nat.reduceEqDiff, if_true, if_false, popFieldAddr, fieldOf, List.getElem?_toArray, List.getElem?_cons_zero, List.getElem?_cons_succ, Tryd.underlying76, sz3, eq_self, true_and, and_true, str_list, str_size, str_app, str_cut, str_get, hc, g6_0, clockBlk, List.length_cons, List.length_nil, Nat.zero_add, Nat.reduceAdd, Nat.reduceLeDiff, List.take_zero, List.take_succ_cons, List.take_nil, List.drop_succ_cons, List.drop_zero, List.drop_nil, List.nil_append, List.cons_append, List.append_nil, and_self, List.getElem?_cons_zero, List.getElem?_cons_succ, List.set_cons_zero, List.set_cons_succ, Option.some.injEq, s'.1]
        refine ⟨⟨0, rfl⟩, ?_⟩
        exact hM _ (.refl _)
      apply lex_to
      · rfl
      · intro h' s' M hM
        simp only [pop, St.eval, constSlot, upd_at, Nat.reduceEqDiff, if_true, if_false, popLoad, loadK, isAggD, List.drop_zero, List.getElem?_toArray, List.getElem?_cons_zero, List.getElem?_cons_succ, Bool.false_eq_true, Tryd.underlying3, sz3, eq_self, true_and, and_true, str_list, str_size, str_app, str_cut, str_get, hc, g6_0, clockBlk, List.length_cons, List.length_nil, Nat.zero_add, Nat.reduceAdd, Nat.reduceLeDiff, List.take_zero, List.take_succ_cons, List.take_nil, List.drop_succ_cons, List.drop_zero, List.drop_nil, List.nil_append, List.cons_append, List.append_nil, and_self, List.getElem?_cons_zero, List.getElem?_cons_succ, List.set_cons_zero, List.set_cons_succ, Option.some.injEq, s'.1]
        exact hM _ (.refl _)
      apply lex_to
      · rfl
      · intro h' s' M hM
        simp only [pop, St.eval, constSlot, upd_at, Nat.reduceEqDiff, if_true, if_false, eq_self, true_and, and_true, str_list, str_size, str_app, str_cut, str_get, hc, g6_0, s'.1]
        exact hM _ (.refl _)
      apply lex_to
      · rfl
      · intro h' s' M hM
        simp only [pop, St.eval, constSlot, upd_at, Nat.reduceEqDiff, if_true, if_false, eq_self, true_and, and_true, str_list, str_size, str_app, str_cut, str_get, hc, g6_0, s'.1]
        exact hM _ (.refl _)
      apply lex_to
      · rfl
      · intro h' s' M hM
        simp only [pop, St.eval, constSlot, upd_at, Nat.reduceEqDiff, if_true, if_false, eq_self, true_and, and_true, str_list, str_size, str_app, str_cut, str_get, hc, g6_0, s'.1]
        exact hM _ (.refl _)
      apply lex_to
      · rfl
      · intro h' s' M hM
        simp only [pop, St.eval, constSlot, upd_at, Nat.reduceEqDiff, if_true, if_false, popFieldAddr, fieldOf, List.getElem?_toArray, List.getElem?_cons_zero, List.getElem?_cons_succ, Tryd.underlying76, sz3, eq_self, true_and, and_true, str_list, str_size, str_app, str_cut, str_get, hc, g6_0, clockBlk, List.length_cons, List.length_nil, Nat.zero_add, Nat.reduceAdd, Nat.reduceLeDiff, List.take_zero, List.take_succ_cons, List.take_nil, List.drop_succ_cons, List.drop_zero, List.drop_nil, List.nil_append, List.cons_append, List.append_nil, and_self, List.getElem?_cons_zero, List.getElem?_cons_succ, List.set_cons_zero, List.set_cons_succ, Option.some.injEq, s'.1]
        refine ⟨⟨0, rfl⟩, ?_⟩
        exact hM _ (.refl _)
      apply lex_to
      · rfl
      · intro h' s' M hM
        simp only [pop, St.eval, constSlot, upd_at, Nat.reduceEqDiff, if_true, if_false, popLoad, loadK, isAggD, List.drop_zero, List.getElem?_toArray, List.getElem?_cons_zero, List.getElem?_cons_succ, Bool.false_eq_true, Tryd.underlying3, sz3, eq_self, true_and, and_true, str_list, str_size, str_app, str_cut, str_get, hc, g6_0, clockBlk, List.length_cons, List.length_nil, Nat.zero_add, Nat.reduceAdd, Nat.reduceLeDiff, List.take_zero, List.take_succ_cons, List.take_nil, List.drop_succ_cons, List.drop_zero, List.drop_nil, List.nil_append, List.cons_append, List.append_nil, and_self, List.getElem?_cons_zero, List.getElem?_cons_succ, List.set_cons_zero, List.set_cons_succ, Option.some.injEq, s'.1]
        exact hM _ (.refl _)
      apply lex_to
      · rfl
      · intro h' s' M hM
        simp only [pop, St.eval, constSlot, upd_at, Nat.reduceEqDiff, if_true, if_false, popBin, binK, intK, strK, eqK, eq_self, true_and, and_true, str_list, str_size, str_app, str_cut, str_get, hc, g6_0, s'.1]
        exact hM _ (.refl _)
      apply lex_to
      · rfl
      · intro h' s' M hM
        simp only [pop, St.eval, constSlot, upd_at, Nat.reduceEqDiff, if_true, if_false, popCall, List.toList_toArray, List.map_cons, List.map_nil, popBuiltin, eq_self, true_and, and_true, str_list, str_size, str_app, str_cut, str_get, hc, g6_0, s'.1]
        exact hM _ (.refl _)
      apply lex_to
      · rfl
      · intro h' s' M hM
        simp only [pop, St.eval, constSlot, upd_at, Nat.reduceEqDiff, if_true, if_false, popBin, binK, intK, strK, eqK, eq_self, true_and, and_true, str_list, str_size, str_app, str_cut, str_get, hc, g6_0, s'.1]
        exact hM _ (.refl _)
      apply lex_to
      · rfl
      · intro h' s' M hM
        simp only [pop, St.eval, constSlot, upd_at, Nat.reduceEqDiff, if_true, if_false, eq_self, true_and, and_true, str_list, str_size, str_app, str_cut, str_get, hc, g6_0, s'.1]
        exact hM _ (.refl _)
      apply lex_to
      · rfl
      · intro h' s' M hM
        simp only [pop, St.eval, constSlot, upd_at, Nat.reduceEqDiff, if_true, if_false, popFieldAddr, fieldOf, List.getElem?_toArray, List.getElem?_cons_zero, List.getElem?_cons_succ, Tryd.underlying76, sz3, eq_self, true_and, and_true, str_list, str_size, str_app, str_cut, str_get, hc, g6_0, clockBlk, List.length_cons, List.length_nil, Nat.zero_add, Nat.reduceAdd, Nat.reduceLeDiff, List.take_zero, List.take_succ_cons, List.take_nil, List.drop_succ_cons, List.drop_zero, List.drop_nil, List.nil_append, List.cons_append, List.append_nil, and_self, List.getElem?_cons_zero, List.getElem?_cons_succ, List.set_cons_zero, List.set_cons_succ, Option.some.injEq, s'.1]
        refine ⟨⟨0, rfl⟩, ?_⟩
        exact hM _ (.refl _)
      refine lex_done fun hq sq => ?_
      skip
      have hc' : hq.blk id = some (clockBlk v) := by rw [sq.1]; exact hc
      refine pops_no fun M hM => ?_
      simp only [pop, St.eval, constSlot, upd_at, Nat.reduceEqDiff, if_true, if_false, popStore, slotCells, splice, List.length_cons, List.length_nil, Nat.zero_add, Nat.reduceAdd, Nat.reduceLeDiff, List.take_zero, List.take_succ_cons, List.take_nil, List.drop_succ_cons, List.drop_zero, List.drop_nil, List.nil_append, List.cons_append, List.append_nil, and_self, List.getElem?_cons_zero, List.getElem?_cons_succ, List.set_cons_zero, List.set_cons_succ, Option.some.injEq, Tryd.underlying3, sz3, eq_self, true_and, and_true, str_list, str_size, str_app, str_cut, str_get, hc, g6_0, hc', clockBlk, List.length_cons, List.length_nil, Nat.zero_add, Nat.reduceAdd, Nat.reduceLeDiff, List.take_zero, List.take_succ_cons, List.take_nil, List.drop_succ_cons, List.drop_zero, List.drop_nil, List.nil_append, List.cons_append, List.append_nil, and_self, List.getElem?_cons_zero, List.getElem?_cons_succ, List.set_cons_zero, List.set_cons_succ, Option.some.injEq]
      refine hM _ _ ?_
      clear hM M
      refine pops_done (hR3 _ ?_)
      clear hR3 R3
      simp only [bodyK]
      refine ⟨_, rfl, ?_⟩
      try simp only [upd_at, Nat.reduceEqDiff, if_true, if_false, hc, g6_0, hc']
      refine ⟨_, _, .refl _ _ _, rfl, ⟨fun j b hj => ?_, sq.2⟩, ?_⟩
      · simp only [Hp.set]
        by_cases e : j = id
        · simp [e] at hj
        · simp only [e, if_false] at hj ⊢
          rw [sq.1]
          exact hj
      · rw [blk_set]
        simp only [decide_eq_true_eq, inI64] at c12 g6_0 hd
        rw [wrap_i64 (x := 4611686018427387904 - v) (by omega) (by omega), wrap_i64 (by split <;> omega) (by split <;> omega)]
        simp only [clockBlk, passR]
        rw [if_pos (show 0 < d ∧ v < 4611686018427387904 from ⟨by omega, by omega⟩)]
    · skip
      refine pwp_skip ?_
      simp only [bodyK]
      refine ⟨_, rfl, ?_⟩
      try simp only [upd_at, Nat.reduceEqDiff, if_true, if_false, hc, g6_0]
      refine ⟨_, _, .refl _ _ _, rfl, ⟨fun j b hj => ?_, Nat.le_refl _⟩, ?_⟩
      · by_cases e : j = id
        · simp [e] at hj
        · simpa [e] using hj
      · simp only [decide_eq_true_eq, decide_eq_false_iff_not, inI64] at *
        rw [hc, passR, if_neg (by omega)]
  · skip
    refine pops_off (b := false) rfl rfl (by simp only [upd_at, Nat.reduceEqDiff, if_true, if_false, hc, g6_0]) (by decide) ?_
    refine pops_off (b := false) rfl rfl (by simp only [upd_at, Nat.reduceEqDiff, if_true, if_false, hc, g6_0]) (by decide) ?_
    refine pops_off (b := false) rfl rfl (by simp only [upd_at, Nat.reduceEqDiff, if_true, if_false, hc, g6_0]) (by decide) ?_
    refine pops_off (b := false) rfl rfl (by simp only [upd_at, Nat.reduceEqDiff, if_true, if_false, hc, g6_0]) (by decide) ?_
    refine pops_off (b := false) rfl rfl (by simp only [upd_at, Nat.reduceEqDiff, if_true, if_false, hc, g6_0]) (by decide) ?_
    refine pops_to rfl fun M hM => ?_
    simp only [pop, St.eval, constSlot, upd_at, Nat.reduceEqDiff, if_true, if_false, popIf, true_implies, false_implies, Bool.true_eq_false, Bool.false_eq_true, reduceCtorEq, eq_self, true_and, and_true, str_list, str_size, str_app, str_cut, str_get, hc, g6_0]
    refine hM _ _ ?_
    clear hM M
    refine pops_done (hR2 _ ?_)
    clear hR2 R2
    try simp only [thenK]
    refine hN1 _ ?_
    clear hN1 N1
    refine pwp_cond_false (by simp only [St.eval, upd_at, Nat.reduceEqDiff, if_true, if_false, hc, g6_0] <;> rfl) ?_
    refine pwp_skip ?_
    simp only [bodyK]
    refine ⟨_, rfl, ?_⟩
    try simp only [upd_at, Nat.reduceEqDiff, if_true, if_false, hc, g6_0]
    refine ⟨_, _, .refl _ _ _, rfl, ⟨fun j b hj => ?_, Nat.le_refl _⟩, ?_⟩
    · by_cases e : j = id
      · simp [e] at hj
      · simpa [e] using hj
    · simp only [decide_eq_true_eq, decide_eq_false_iff_not, inI64] at *
      rw [hc, passR, if_neg (by omega)]

theorem nm19 : (Tryd.f19.name == "runtime.NumGoroutine") = false := by kernel_rfl
theorem truncate_fun (W0 : World) (t p : Int) :
    PFun Tryd.prog W0 19 [.one (pint t), .one (pint p)] (.sv (.one (pint (truncR t p)))) := by
  intro h
  refine pcalls2 (n := 20) Tryd.func19 rfl nm19 rfl fun hb => ?_
  refine pwp_then fun N1 hN1 => ?_
  refine pwp_reg fun R2 hR2 => ?_
  refine pops_to rfl fun M hM => ?_
  simp only [pop, St.eval, constSlot, upd_at, Nat.reduceEqDiff, if_true, if_false, eq_self, true_and, and_true, str_list, str_size, str_app, str_cut, str_get]
  refine hM _ _ ?_
  clear hM M
  refine pops_done (hR2 _ ?_)
  clear hR2 R2
  try simp only [thenK]
  refine hN1 _ ?_
  clear hN1 N1
  refine pwp_then fun N3 hN3 => ?_
  refine pwp_then fun N4 hN4 => ?_
  refine pwp_reg fun R5 hR5 => ?_
  refine pops_to rfl fun M hM => ?_
  simp only [pop, St.eval, constSlot, upd_at, Nat.reduceEqDiff, if_true, if_false, eq_self, true_and, and_true, str_list, str_size, str_app, str_cut, str_get]
  refine hM _ _ ?_
  clear hM M
  refine pops_to rfl fun M hM => ?_
  simp only [pop, St.eval, constSlot, upd_at, Nat.reduceEqDiff, if_true, if_false, popBin, binK, intK, strK, eqK, eq_self, true_and, and_true, str_list, str_size, str_app, str_cut, str_get]
  refine hM _ _ ?_
  clear hM M
  refine pops_done (hR5 _ ?_)
  clear hR5 R5
  try simp only [thenK]
  refine hN4 _ ?_
  clear hN4 N4
  refine pwp_cond (by simp only [St.eval, upd_at, Nat.reduceEqDiff, if_true, if_false] <;> rfl) (fun c7 => ?_) (fun c7 => ?_)
  · skip
    refine pwp_then fun N6 hN6 => ?_
    refine pwp_reg fun R7 hR7 => ?_
    refine pops_to rfl fun M hM => ?_
    simp only [pop, St.eval, constSlot, upd_at, Nat.reduceEqDiff, if_true, if_false, eq_self, true_and, and_true, str_list, str_size, str_app, str_cut, str_get]
    refine hM _ _ ?_
    clear hM M
    refine pops_to rfl fun M hM => ?_
    simp only [pop, St.eval, constSlot, upd_at, Nat.reduceEqDiff, if_true, if_false, eq_self, true_and, and_true, str_list, str_size, str_app, str_cut, str_get]
    refine hM _ _ ?_
    clear hM M
    refine pops_done (hR7 _ ?_)
    clear hR7 R7
    try simp only [thenK]
    refine hN6 _ ?_
    clear hN6 N6
    refine pwp_ret ?_
    simp only [thenK, blockK, bodyK]
    clear hN3 N3
    refine ⟨_, rfl, endFun (Same.refl _) ?_⟩
    try simp only [upd_at, Nat.reduceEqDiff, if_true, if_false]
    all_goals
      simp only [decide_eq_true_eq] at c7
      rw [truncR, if_pos c7]
  · skip
    refine pwp_skip ?_
    try simp only [thenK]
    refine hN3 _ ?_
    clear hN3 N3
    refine pwp_then fun N8 hN8 => ?_
    refine pwp_reg fun R9 hR9 => ?_
    refine pops_to rfl fun M hM => ?_
    simp only [pop, St.eval, constSlot, upd_at, Nat.reduceEqDiff, if_true, if_false, eq_self, true_and, and_true, str_list, str_size, str_app, str_cut, str_get]
    refine hM _ _ ?_
    clear hM M
    refine pops_to rfl fun M hM => ?_
    simp only [pop, St.eval, constSlot, upd_at, Nat.reduceEqDiff, if_true, if_false, eq_self, true_and, and_true, str_list, str_size, str_app, str_cut, str_get]
    refine hM _ _ ?_
    clear hM M
    refine pops_to rfl fun M hM => ?_
    simp only [pop, St.eval, constSlot, upd_at, Nat.reduceEqDiff, if_true, if_false, popBin, binK, intK, strK, eqK, eq_self, true_and, and_true, str_list, str_size, str_app, str_cut, str_get]
    refine ⟨?_, hM _ _ ?_⟩
    · simp only [decide_eq_false_iff_not] at c7; omega
    clear hM M
    refine pops_to rfl fun M hM => ?_
    simp only [pop, St.eval, constSlot, upd_at, Nat.reduceEqDiff, if_true, if_false, eq_self, true_and, and_true, str_list, str_size, str_app, str_cut, str_get]
    refine hM _ _ ?_
    clear hM M
    refine pops_done (hR9 _ ?_)
    clear hR9 R9
    try simp only [thenK]
    refine hN8 _ ?_
    clear hN8 N8
    refine pwp_then fun N10 hN10 => ?_
    refine pwp_then fun N11 hN11 => ?_
    refine pwp_reg fun R12 hR12 => ?_
    refine pops_to rfl fun M hM => ?_
    simp only [pop, St.eval, constSlot, upd_at, Nat.reduceEqDiff, if_true, if_false, eq_self, true_and, and_true, str_list, str_size, str_app, str_cut, str_get]
    refine hM _ _ ?_
    clear hM M
    refine pops_to rfl fun M hM => ?_
    simp only [pop, St.eval, constSlot, upd_at, Nat.reduceEqDiff, if_true, if_false, popBin, binK, intK, strK, eqK, eq_self, true_and, and_true, str_list, str_size, str_app, str_cut, str_get]
    refine hM _ _ ?_
    clear hM M
    refine pops_done (hR12 _ ?_)
    clear hR12 R12
    try simp only [thenK]
    refine hN11 _ ?_
    clear hN11 N11
    refine pwp_cond (by simp only [St.eval, upd_at, Nat.reduceEqDiff, if_true, if_false] <;> rfl) (fun c13 => ?_) (fun c13 => ?_)
    · skip
      refine pwp_reg fun R13 hR13 => ?_
      refine pops_to rfl fun M hM => ?_
      simp only [pop, St.eval, constSlot, upd_at, Nat.reduceEqDiff, if_true, if_false, eq_self, true_and, and_true, str_list, str_size, str_app, str_cut, str_get]
      refine hM _ _ ?_
      clear hM M
      refine pops_to rfl fun M hM => ?_
      simp only [pop, St.eval, constSlot, upd_at, Nat.reduceEqDiff, if_true, if_false, eq_self, true_and, and_true, str_list, str_size, str_app, str_cut, str_get]
      refine hM _ _ ?_
      clear hM M
      refine pops_to rfl fun M hM => ?_
      simp only [pop, St.eval, constSlot, upd_at, Nat.reduceEqDiff, if_true, if_false, popBin, binK, intK, strK, eqK, eq_self, true_and, and_true, str_list, str_size, str_app, str_cut, str_get]
      refine hM _ _ ?_
      clear hM M
      refine pops_to rfl fun M hM => ?_
      simp only [pop, St.eval, constSlot, upd_at, Nat.reduceEqDiff, if_true, if_false, eq_self, true_and, and_true, str_list, str_size, str_app, str_cut, str_get]
      refine hM _ _ ?_
      clear hM M
      refine pops_done (hR13 _ ?_)
      clear hR13 R13
      try simp only [thenK]
      refine hN10 _ ?_
      clear hN10 N10
      refine pwp_then fun N14 hN14 => ?_
      refine pwp_reg fun R15 hR15 => ?_
      refine pops_to rfl fun M hM => ?_
      simp only [pop, St.eval, constSlot, upd_at, Nat.reduceEqDiff, if_true, if_false, eq_self, true_and, and_true, str_list, str_size, str_app, str_cut, str_get]
      refine hM _ _ ?_
      clear hM M
      refine pops_to rfl fun M hM => ?_
      simp only [pop, St.eval, constSlot, upd_at, Nat.reduceEqDiff, if_true, if_false, eq_self, true_and, and_true, str_list, str_size, str_app, str_cut, str_get]
      refine hM _ _ ?_
      clear hM M
      refine pops_to rfl fun M hM => ?_
      simp only [pop, St.eval, constSlot, upd_at, Nat.reduceEqDiff, if_true, if_false, popBin, binK, intK, strK, eqK, eq_self, true_and, and_true, str_list, str_size, str_app, str_cut, str_get]
      refine hM _ _ ?_
      clear hM M
      refine pops_to rfl fun M hM => ?_
      simp only [pop, St.eval, constSlot, upd_at, Nat.reduceEqDiff, if_true, if_false, eq_self, true_and, and_true, str_list, str_size, str_app, str_cut, str_get]
      refine hM _ _ ?_
      clear hM M
      refine pops_done (hR15 _ ?_)
      clear hR15 R15
      try simp only [thenK]
      refine hN14 _ ?_
      clear hN14 N14
      refine pwp_ret ?_
      simp only [thenK, blockK, bodyK]
      refine ⟨_, rfl, endFun (Same.refl _) ?_⟩
      try simp only [upd_at, Nat.reduceEqDiff, if_true, if_false]
      all_goals
        simp only [decide_eq_true_eq, decide_eq_false_iff_not] at c7 c13
        rw [truncR, if_neg c7, if_pos c13]
    · skip
      refine pwp_skip ?_
      try simp only [thenK]
      refine hN10 _ ?_
      clear hN10 N10
      refine pwp_then fun N16 hN16 => ?_
      refine pwp_reg fun R17 hR17 => ?_
      refine pops_to rfl fun M hM => ?_
      simp only [pop, St.eval, constSlot, upd_at, Nat.reduceEqDiff, if_true, if_false, eq_self, true_and, and_true, str_list, str_size, str_app, str_cut, str_get]
      refine hM _ _ ?_
      clear hM M
      refine pops_to rfl fun M hM => ?_
      simp only [pop, St.eval, constSlot, upd_at, Nat.reduceEqDiff, if_true, if_false, eq_self, true_and, and_true, str_list, str_size, str_app, str_cut, str_get]
      refine hM _ _ ?_
      clear hM M
      refine pops_to rfl fun M hM => ?_
      simp only [pop, St.eval, constSlot, upd_at, Nat.reduceEqDiff, if_true, if_false, popBin, binK, intK, strK, eqK, eq_self, true_and, and_true, str_list, str_size, str_app, str_cut, str_get]
      refine hM _ _ ?_
      clear hM M
      refine pops_to rfl fun M hM => ?_
      simp only [pop, St.eval, constSlot, upd_at, Nat.reduceEqDiff, if_true, if_false, eq_self, true_and, and_true, str_list, str_size, str_app, str_cut, str_get]
      refine hM _ _ ?_
      clear hM M
      refine pops_done (hR17 _ ?_)
      clear hR17 R17
      try simp only [thenK]
      refine hN16 _ ?_
      clear hN16 N16
      refine pwp_ret ?_
      simp only [thenK, blockK, bodyK]
      refine ⟨_, rfl, endFun (Same.refl _) ?_⟩
      try simp only [upd_at, Nat.reduceEqDiff, if_true, if_false]
      all_goals
        simp only [decide_eq_true_eq, decide_eq_false_iff_not] at c7 c13
        rw [truncR, if_neg c7, if_neg c13]

theorem nm4 : (Tryd.f4.name == "runtime.NumGoroutine") = false := by kernel_rfl
theorem times_law (W0 : World) (t p : Int) (ht : inI64 t) (hp : inI64 p) (hm : HasMax W0) :
    PFun Tryd.prog W0 4 [.one (pint t), .one (pint p)] (.sv (.one (pbool true))) := by
  intro h
  refine pcalls2 (n := 34) Tryd.func4 rfl nm4 rfl fun hb => ?_
  refine pwp_then fun N1 hN1 => ?_
  refine pwp_reg fun R2 hR2 => ?_
  refine pops_to rfl fun M hM => ?_
  simp only [pop, St.eval, constSlot, upd_at, Nat.reduceEqDiff, if_true, if_false, eq_self, true_and, and_true, str_list, str_size, str_app, str_cut, str_get]
  refine hM _ _ ?_
  clear hM M
  refine pops_done (hR2 _ ?_)
  clear hR2 R2
  try simp only [thenK]
  refine hN1 _ ?_
  clear hN1 N1
  refine pwp_then fun N3 hN3 => ?_
  refine pwp_then fun N4 hN4 => ?_
  refine pwp_reg fun R5 hR5 => ?_
  refine pops_to rfl fun M hM => ?_
  simp only [pop, St.eval, constSlot, upd_at, Nat.reduceEqDiff, if_true, if_false, popCall, List.toList_toArray, List.map_cons, List.map_nil, svs, List.mapM_cons, List.mapM_nil, Option.bind_eq_bind, Option.bind_some, Option.pure_def, List.append_nil, List.cons_append, List.nil_append, eq_self, true_and, and_true, str_list, str_size, str_app, str_cut, str_get]
  refine PFun.use (landed_fun W0 hm) fun h1 s1 => hM _ _ ?_
  replace s1 := Same.trans (Same.refl _) s1
  clear hM M
  refine pops_to rfl fun M hM => ?_
  simp only [pop, St.eval, constSlot, upd_at, Nat.reduceEqDiff, if_true, if_false, unK, eq_self, true_and, and_true, str_list, str_size, str_app, str_cut, str_get]
  refine hM _ _ ?_
  clear hM M
  refine pops_done (hR5 _ ?_)
  clear hR5 R5
  try simp only [thenK]
  refine hN4 _ ?_
  clear hN4 N4
  refine pwp_cond (by simp only [St.eval, upd_at, Nat.reduceEqDiff, if_true, if_false] <;> rfl) (fun c7 => ?_) (fun c7 => ?_)
  · skip
    simp at c7
  · skip
    refine pwp_skip ?_
    try simp only [thenK]
    refine hN3 _ ?_
    clear hN3 N3
    refine pwp_then fun N6 hN6 => ?_
    refine pwp_reg fun R7 hR7 => ?_
    refine pops_to rfl fun M hM => ?_
    simp only [pop, St.eval, constSlot, upd_at, Nat.reduceEqDiff, if_true, if_false, eq_self, true_and, and_true, str_list, str_size, str_app, str_cut, str_get]
    refine hM _ _ ?_
    clear hM M
    refine pops_to rfl fun M hM => ?_
    simp only [pop, St.eval, constSlot, upd_at, Nat.reduceEqDiff, if_true, if_false, eq_self, true_and, and_true, str_list, str_size, str_app, str_cut, str_get]
    refine hM _ _ ?_
    clear hM M
    refine pops_to rfl fun M hM => ?_
    simp only [pop, St.eval, constSlot, upd_at, Nat.reduceEqDiff, if_true, if_false, popCall, List.toList_toArray, List.map_cons, List.map_nil, svs, List.mapM_cons, List.mapM_nil, Option.bind_eq_bind, Option.bind_some, Option.pure_def, List.append_nil, List.cons_append, List.nil_append, eq_self, true_and, and_true, str_list, str_size, str_app, str_cut, str_get]
    refine PFun.use (truncate_fun W0 t p) fun h2 s2 => hM _ _ ?_
    replace s2 := Same.trans s1 s2
    clear hM M
    refine pops_to rfl fun M hM => ?_
    simp only [pop, St.eval, constSlot, upd_at, Nat.reduceEqDiff, if_true, if_false, eq_self, true_and, and_true, str_list, str_size, str_app, str_cut, str_get]
    refine hM _ _ ?_
    clear hM M
    refine pops_done (hR7 _ ?_)
    clear hR7 R7
    try simp only [thenK]
    refine hN6 _ ?_
    clear hN6 N6
    refine pwp_then fun N8 hN8 => ?_
    refine pwp_then fun N9 hN9 => ?_
    refine pwp_reg fun R10 hR10 => ?_
    refine pops_to rfl fun M hM => ?_
    simp only [pop, St.eval, constSlot, upd_at, Nat.reduceEqDiff, if_true, if_false, eq_self, true_and, and_true, str_list, str_size, str_app, str_cut, str_get]
    refine hM _ _ ?_
    clear hM M
    refine pops_to rfl fun M hM => ?_
    simp only [pop, St.eval, constSlot, upd_at, Nat.reduceEqDiff, if_true, if_false, popBin, binK, intK, strK, eqK, eq_self, true_and, and_true, str_list, str_size, str_app, str_cut, str_get]
    refine hM _ _ ?_
    clear hM M
    refine pops_done (hR10 _ ?_)
    clear hR10 R10
    try simp only [thenK]
    refine hN9 _ ?_
    clear hN9 N9
    refine pwp_cond (by simp only [St.eval, upd_at, Nat.reduceEqDiff, if_true, if_false] <;> rfl) (fun c12 => ?_) (fun c12 => ?_)
    · skip
      refine pwp_then fun N11 hN11 => ?_
      refine pwp_reg fun R12 hR12 => ?_
      refine pops_to rfl fun M hM => ?_
      simp only [pop, St.eval, constSlot, upd_at, Nat.reduceEqDiff, if_true, if_false, eq_self, true_and, and_true, str_list, str_size, str_app, str_cut, str_get]
      refine hM _ _ ?_
      clear hM M
      refine pops_to rfl fun M hM => ?_
      simp only [pop, St.eval, constSlot, upd_at, Nat.reduceEqDiff, if_true, if_false, eq_self, true_and, and_true, str_list, str_size, str_app, str_cut, str_get]
      refine hM _ _ ?_
      clear hM M
      refine pops_to rfl fun M hM => ?_
      simp only [pop, St.eval, constSlot, upd_at, Nat.reduceEqDiff, if_true, if_false, popBin, binK, intK, strK, eqK, Tryd.underlying3, isPtr, eq_self, true_and, and_true, str_list, str_size, str_app, str_cut, str_get]
      refine hM _ _ ?_
      clear hM M
      refine pops_to rfl fun M hM => ?_
      simp only [pop, St.eval, constSlot, upd_at, Nat.reduceEqDiff, if_true, if_false, eq_self, true_and, and_true, str_list, str_size, str_app, str_cut, str_get]
      refine hM _ _ ?_
      clear hM M
      refine pops_done (hR12 _ ?_)
      clear hR12 R12
      try simp only [thenK]
      refine hN11 _ ?_
      clear hN11 N11
      refine pwp_ret ?_
      simp only [thenK, blockK, bodyK]
      clear hN8 N8
      refine ⟨_, rfl, endFun s2 ?_⟩
      try simp only [upd_at, Nat.reduceEqDiff, if_true, if_false]
      all_goals
        simp only [decide_eq_true_eq] at c12
        simp [truncR, c12]
    · skip
      refine pwp_skip ?_
      try simp only [thenK]
      refine hN8 _ ?_
      clear hN8 N8
      refine pwp_then fun N13 hN13 => ?_
      refine pwp_then fun N14 hN14 => ?_
      refine pwp_reg fun R15 hR15 => ?_
      refine pops_to rfl fun M hM => ?_
      simp only [pop, St.eval, constSlot, upd_at, Nat.reduceEqDiff, if_true, if_false, eq_self, true_and, and_true, str_list, str_size, str_app, str_cut, str_get]
      refine hM _ _ ?_
      clear hM M
      refine pops_to rfl fun M hM => ?_
      simp only [pop, St.eval, constSlot, upd_at, Nat.reduceEqDiff, if_true, if_false, popBin, binK, intK, strK, eqK, eq_self, true_and, and_true, str_list, str_size, str_app, str_cut, str_get]
      refine hM _ _ ?_
      clear hM M
      refine pops_done (hR15 _ ?_)
      clear hR15 R15
      try simp only [thenK]
      refine hN14 _ ?_
      clear hN14 N14
      refine pwp_cond (by simp only [St.eval, upd_at, Nat.reduceEqDiff, if_true, if_false] <;> rfl) (fun c17 => ?_) (fun c17 => ?_)
      · skip
        refine pwp_then fun N16 hN16 => ?_
        refine pwp_reg fun R17 hR17 => ?_
        refine pops_to rfl fun M hM => ?_
        simp only [pop, St.eval, constSlot, upd_at, Nat.reduceEqDiff, if_true, if_false, eq_self, true_and, and_true, str_list, str_size, str_app, str_cut, str_get]
        refine hM _ _ ?_
        clear hM M
        refine pops_done (hR17 _ ?_)
        clear hR17 R17
        try simp only [thenK]
        refine hN16 _ ?_
        clear hN16 N16
        refine pwp_ret ?_
        simp only [thenK, blockK, bodyK]
        clear hN13 N13
        refine ⟨_, rfl, endFun s2 ?_⟩
        try simp only [upd_at, Nat.reduceEqDiff, if_true, if_false]
        all_goals
          rfl
      · skip
        simp only [decide_eq_false_iff_not, inI64] at c12 c17 hp ht
        have F := truncR_facts t p (by omega) hp.2 (by omega) ht.2
        refine pwp_skip ?_
        try simp only [thenK]
        refine hN13 _ ?_
        clear hN13 N13
        refine pwp_then fun N18 hN18 => ?_
        refine pwp_reg fun R19 hR19 => ?_
        refine pops_to rfl fun M hM => ?_
        simp only [pop, St.eval, constSlot, upd_at, Nat.reduceEqDiff, if_true, if_false, eq_self, true_and, and_true, str_list, str_size, str_app, str_cut, str_get]
        refine hM _ _ ?_
        clear hM M
        refine pops_to rfl fun M hM => ?_
        simp only [pop, St.eval, constSlot, upd_at, Nat.reduceEqDiff, if_true, if_false, eq_self, true_and, and_true, str_list, str_size, str_app, str_cut, str_get]
        refine hM _ _ ?_
        clear hM M
        refine pops_to rfl fun M hM => ?_
        simp only [pop, St.eval, constSlot, upd_at, Nat.reduceEqDiff, if_true, if_false, popBin, binK, intK, strK, eqK, eq_self, true_and, and_true, str_list, str_size, str_app, str_cut, str_get]
        refine hM _ _ ?_
        clear hM M
        refine pops_to rfl fun M hM => ?_
        simp only [pop, St.eval, constSlot, upd_at, Nat.reduceEqDiff, if_true, if_false, eq_self, true_and, and_true, str_list, str_size, str_app, str_cut, str_get]
        refine hM _ _ ?_
        clear hM M
        refine pops_split 21 (by simp only [upd_at, Nat.reduceEqDiff, if_true, if_false] <;> rfl) (fun g21_0 => ?_) (fun g21_0 => ?_)
        · skip
          refine pops_do rfl rfl (by simp only [upd_at, Nat.reduceEqDiff, if_true, if_false, g21_0]) fun M hM => ?_
          simp only [pop, St.eval, constSlot, upd_at, Nat.reduceEqDiff, if_true, if_false, eq_self, true_and, and_true, str_list, str_size, str_app, str_cut, str_get, g21_0]
          refine hM _ _ ?_
          clear hM M
          refine pops_do rfl rfl (by simp only [upd_at, Nat.reduceEqDiff, if_true, if_false, g21_0]) fun M hM => ?_
          simp only [pop, St.eval, constSlot, upd_at, Nat.reduceEqDiff, if_true, if_false, eq_self, true_and, and_true, str_list, str_size, str_app, str_cut, str_get, g21_0]
          refine hM _ _ ?_
          clear hM M
          refine pops_do rfl rfl (by simp only [upd_at, Nat.reduceEqDiff, if_true, if_false, g21_0]) fun M hM => ?_
          simp only [pop, St.eval, constSlot, upd_at, Nat.reduceEqDiff, if_true, if_false, popBin, binK, intK, strK, eqK, eq_self, true_and, and_true, str_list, str_size, str_app, str_cut, str_get, g21_0]
          refine hM _ _ ?_
          clear hM M
          refine pops_do rfl rfl (by simp only [upd_at, Nat.reduceEqDiff, if_true, if_false, g21_0]) fun M hM => ?_
          simp only [pop, St.eval, constSlot, upd_at, Nat.reduceEqDiff, if_true, if_false, eq_self, true_and, and_true, str_list, str_size, str_app, str_cut, str_get, g21_0]
          refine hM _ _ ?_
          clear hM M
          refine pops_do rfl rfl (by simp only [upd_at, Nat.reduceEqDiff, if_true, if_false, g21_0]) fun M hM => ?_
          simp only [pop, St.eval, constSlot, upd_at, Nat.reduceEqDiff, if_true, if_false, popBin, binK, intK, strK, eqK, eq_self, true_and, and_true, str_list, str_size, str_app, str_cut, str_get, g21_0]
          refine hM _ _ ?_
          clear hM M
          refine pops_to rfl fun M hM => ?_
          simp only [pop, St.eval, constSlot, upd_at, Nat.reduceEqDiff, if_true, if_false, popIf, true_implies, false_implies, Bool.true_eq_false, Bool.false_eq_true, reduceCtorEq, eq_self, true_and, and_true, str_list, str_size, str_app, str_cut, str_get, g21_0]
          refine hM _ _ ?_
          clear hM M
          refine pops_to rfl fun M hM => ?_
          simp only [pop, St.eval, constSlot, upd_at, Nat.reduceEqDiff, if_true, if_false, eq_self, true_and, and_true, str_list, str_size, str_app, str_cut, str_get, g21_0]
          refine hM _ _ ?_
          clear hM M
          refine pops_split 28 (by simp only [upd_at, Nat.reduceEqDiff, if_true, if_false, g21_0] <;> rfl) (fun g28_1 => ?_) (fun g28_1 => ?_)
          · skip
            refine pops_do rfl rfl (by simp only [upd_at, Nat.reduceEqDiff, if_true, if_false, g21_0, g28_1]) fun M hM => ?_
            simp only [pop, St.eval, constSlot, upd_at, Nat.reduceEqDiff, if_true, if_false, eq_self, true_and, and_true, str_list, str_size, str_app, str_cut, str_get, g21_0, g28_1]
            refine hM _ _ ?_
            clear hM M
            refine pops_do rfl rfl (by simp only [upd_at, Nat.reduceEqDiff, if_true, if_false, g21_0, g28_1]) fun M hM => ?_
            simp only [pop, St.eval, constSlot, upd_at, Nat.reduceEqDiff, if_true, if_false, eq_self, true_and, and_true, str_list, str_size, str_app, str_cut, str_get, g21_0, g28_1]
            refine hM _ _ ?_
            clear hM M
            refine pops_do rfl rfl (by simp only [upd_at, Nat.reduceEqDiff, if_true, if_false, g21_0, g28_1]) fun M hM => ?_
            simp only [pop, St.eval, constSlot, upd_at, Nat.reduceEqDiff, if_true, if_false, popBin, binK, intK, strK, eqK, eq_self, true_and, and_true, str_list, str_size, str_app, str_cut, str_get, g21_0, g28_1]
            refine ⟨?_, hM _ _ ?_⟩
            · omega
            clear hM M
            refine pops_do rfl rfl (by simp only [upd_at, Nat.reduceEqDiff, if_true, if_false, g21_0, g28_1]) fun M hM => ?_
            simp only [pop, St.eval, constSlot, upd_at, Nat.reduceEqDiff, if_true, if_false, popBin, binK, intK, strK, eqK, Tryd.underlying3, isPtr, eq_self, true_and, and_true, str_list, str_size, str_app, str_cut, str_get, g21_0, g28_1]
            refine hM _ _ ?_
            clear hM M
            refine pops_to rfl fun M hM => ?_
            simp only [pop, St.eval, constSlot, upd_at, Nat.reduceEqDiff, if_true, if_false, popIf, true_implies, false_implies, Bool.true_eq_false, Bool.false_eq_true, reduceCtorEq, eq_self, true_and, and_true, str_list, str_size, str_app, str_cut, str_get, g21_0, g28_1]
            refine hM _ _ ?_
            clear hM M
            refine pops_to rfl fun M hM => ?_
            simp only [pop, St.eval, constSlot, upd_at, Nat.reduceEqDiff, if_true, if_false, eq_self, true_and, and_true, str_list, str_size, str_app, str_cut, str_get, g21_0, g28_1]
            refine hM _ _ ?_
            clear hM M
            refine pops_done (hR19 _ ?_)
            clear hR19 R19
            try simp only [thenK]
            refine hN18 _ ?_
            clear hN18 N18
            refine pwp_ret ?_
            simp only [thenK, blockK, bodyK]
            refine ⟨_, rfl, endFun s2 ?_⟩
            try simp only [upd_at, Nat.reduceEqDiff, if_true, if_false, g21_0, g28_1]
            all_goals
              simp_all
          · skip
            refine pops_off (b := false) rfl rfl (by simp only [upd_at, Nat.reduceEqDiff, if_true, if_false, g21_0, g28_1]) (by decide) ?_
            refine pops_off (b := false) rfl rfl (by simp only [upd_at, Nat.reduceEqDiff, if_true, if_false, g21_0, g28_1]) (by decide) ?_
            refine pops_off (b := false) rfl rfl (by simp only [upd_at, Nat.reduceEqDiff, if_true, if_false, g21_0, g28_1]) (by decide) ?_
            refine pops_off (b := false) rfl rfl (by simp only [upd_at, Nat.reduceEqDiff, if_true, if_false, g21_0, g28_1]) (by decide) ?_
            refine pops_to rfl fun M hM => ?_
            simp only [pop, St.eval, constSlot, upd_at, Nat.reduceEqDiff, if_true, if_false, popIf, true_implies, false_implies, Bool.true_eq_false, Bool.false_eq_true, reduceCtorEq, eq_self, true_and, and_true, str_list, str_size, str_app, str_cut, str_get, g21_0, g28_1]
            refine hM _ _ ?_
            clear hM M
            refine pops_to rfl fun M hM => ?_
            simp only [pop, St.eval, constSlot, upd_at, Nat.reduceEqDiff, if_true, if_false, eq_self, true_and, and_true, str_list, str_size, str_app, str_cut, str_get, g21_0, g28_1]
            refine hM _ _ ?_
            clear hM M
            refine pops_done (hR19 _ ?_)
            clear hR19 R19
            try simp only [thenK]
            refine hN18 _ ?_
            clear hN18 N18
            refine pwp_ret ?_
            simp only [thenK, blockK, bodyK]
            refine ⟨_, rfl, endFun s2 ?_⟩
            try simp only [upd_at, Nat.reduceEqDiff, if_true, if_false, g21_0, g28_1]
            all_goals
              simp_all
        · skip
          refine pops_off (b := false) rfl rfl (by simp only [upd_at, Nat.reduceEqDiff, if_true, if_false, g21_0]) (by decide) ?_
          refine pops_off (b := false) rfl rfl (by simp only [upd_at, Nat.reduceEqDiff, if_true, if_false, g21_0]) (by decide) ?_
          refine pops_off (b := false) rfl rfl (by simp only [upd_at, Nat.reduceEqDiff, if_true, if_false, g21_0]) (by decide) ?_
          refine pops_off (b := false) rfl rfl (by simp only [upd_at, Nat.reduceEqDiff, if_true, if_false, g21_0]) (by decide) ?_
          refine pops_off (b := false) rfl rfl (by simp only [upd_at, Nat.reduceEqDiff, if_true, if_false, g21_0]) (by decide) ?_
          refine pops_to rfl fun M hM => ?_
          simp only [pop, St.eval, constSlot, upd_at, Nat.reduceEqDiff, if_true, if_false, popIf, true_implies, false_implies, Bool.true_eq_false, Bool.false_eq_true, reduceCtorEq, eq_self, true_and, and_true, str_list, str_size, str_app, str_cut, str_get, g21_0]
          refine hM _ _ ?_
          clear hM M
          refine pops_to rfl fun M hM => ?_
          simp only [pop, St.eval, constSlot, upd_at, Nat.reduceEqDiff, if_true, if_false, eq_self, true_and, and_true, str_list, str_size, str_app, str_cut, str_get, g21_0]
          refine hM _ _ ?_
          clear hM M
          refine pops_off (b := false) rfl rfl (by simp only [upd_at, Nat.reduceEqDiff, if_true, if_false, g21_0]) (by decide) ?_
          refine pops_off (b := false) rfl rfl (by simp only [upd_at, Nat.reduceEqDiff, if_true, if_false, g21_0]) (by decide) ?_
          refine pops_off (b := false) rfl rfl (by simp only [upd_at, Nat.reduceEqDiff, if_true, if_false, g21_0]) (by decide) ?_
          refine pops_off (b := false) rfl rfl (by simp only [upd_at, Nat.reduceEqDiff, if_true, if_false, g21_0]) (by decide) ?_
          refine pops_to rfl fun M hM => ?_
          simp only [pop, St.eval, constSlot, upd_at, Nat.reduceEqDiff, if_true, if_false, popIf, true_implies, false_implies, Bool.true_eq_false, Bool.false_eq_true, reduceCtorEq, eq_self, true_and, and_true, str_list, str_size, str_app, str_cut, str_get, g21_0]
          refine hM _ _ ?_
          clear hM M
          refine pops_to rfl fun M hM => ?_
          simp only [pop, St.eval, constSlot, upd_at, Nat.reduceEqDiff, if_true, if_false, eq_self, true_and, and_true, str_list, str_size, str_app, str_cut, str_get, g21_0]
          refine hM _ _ ?_
          clear hM M
          refine pops_done (hR19 _ ?_)
          clear hR19 R19
          try simp only [thenK]
          refine hN18 _ ?_
          clear hN18 N18
          refine pwp_ret ?_
          simp only [thenK, blockK, bodyK]
          refine ⟨_, rfl, endFun s2 ?_⟩
          try simp only [upd_at, Nat.reduceEqDiff, if_true, if_false, g21_0]
          all_goals
            simp_all
end Go.Pw
