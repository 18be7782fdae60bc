import Derived.Test.YtokmndkkgbamfaaDoorDealT
import Derived.Test.YtokmndkkgbamfaaDoorDealR
namespace Go.Pw
open Go Go.RowKit Go.Proofs
set_option maxRecDepth 100000
set_option linter.unusedSimpArgs false
set_option linter.unusedVariables false
theorem sz26 : szOf Tryd.prog 26 = some 4 := by kernel_rfl
theorem sz28 : szOf Tryd.prog 28 = some 1 := by kernel_rfl
theorem nm7 : (Tryd.f7.name == "runtime.NumGoroutine") = false := by kernel_rfl
set_option maxHeartbeats 4000000 in
theorem printDealRef_fun (W0 : World) (hm : HasMax W0) (hp : HasPow W0) (d : DealG) (hI : dealI d) :
  PFun Tryd.prog W0 7 [.agg (dealPV d)] (.tup [.one (pstr (if dealE d = 0 then dealT d else [])), .one (pint (dealE d))]) := by
 intro h
 refine pcalls1 (n := 122) Tryd.func7 rfl nm7 rfl fun hb => ?_
 refine pwp_then fun N1 hN1 => ?_
 refine pwp_reg fun R2 hR2 => ?_
 refine pops_to rfl fun M hM => ?_
 simp only [pop, St.eval, constSlot, upd_at, Nat.reduceEqDiff, if_true, if_false, popBox, popBoxRo, slotCells, dealPV]
 refine .inr ⟨Nat.succ_pos _, hM _ _ ?_⟩
 clear hM M
 refine pops_mv (.inr rfl) rfl (by simp only [St.eval, constSlot] <;> rfl) ?_
 refine pops_mv (.inr rfl) rfl (by simp only [St.eval, constSlot] <;> rfl) ?_
 refine pops_done (hR2 _ ?_)
 clear hR2 R2
 try simp only [thenK, scopeK]
 refine hN1 _ ?_
 clear hN1 N1
 refine pwp_then fun N3 hN3 => ?_
 refine pwp_then fun N4 hN4 => ?_
 refine pwp_reg fun R5 hR5 => ?_
 refine pops_to rfl fun M hM => ?_
 simp only [pop, St.eval, constSlot, upd_at, Nat.reduceEqDiff, if_true, if_false, List.length_cons, List.length_nil, Nat.zero_add, Nat.reduceAdd, Nat.reduceLeDiff, List.take_zero, List.take_succ_cons, List.take_nil, List.drop_succ_cons, List.drop_zero, List.drop_nil, List.nil_append, List.cons_append, List.append_nil, and_self, List.getElem?_cons_zero, List.getElem?_cons_succ, List.set_cons_zero, List.set_cons_succ, Option.some.injEq, popLoad, loadK, isAggD, List.drop_zero, List.getElem?_toArray, List.getElem?_cons_zero, List.getElem?_cons_succ, Bool.false_eq_true, Tryd.underlying26, sz26, eq_self, true_and, and_true, dealPV]
 refine hM _ _ ?_
 clear hM M
 refine pops_to rfl fun M hM => ?_
 simp only [pop, St.eval, constSlot, upd_at, Nat.reduceEqDiff, if_true, if_false, popCall, List.toList_toArray, List.map_cons, List.map_nil, svs, List.mapM_cons, List.mapM_nil, Option.bind_eq_bind, Option.bind_some, Option.pure_def, List.append_nil, List.cons_append, List.nil_append, str_size, dealPV]
 refine PFun.use (checkDealRef_fun W0 hm d) fun h1 s1 => hM _ _ ?_
 replace s1 := Same.trans (Same.refl _) s1
 clear hM M
 refine pops_mv (.inr rfl) rfl (by simp only [St.eval, upd_at, Nat.reduceEqDiff, if_true, if_false, dealPV] <;> rfl) ?_
 refine pops_done (hR5 _ ?_)
 clear hR5 R5
 try simp only [thenK, scopeK]
 refine hN4 _ ?_
 clear hN4 N4
 refine pwp_then fun N6 hN6 => ?_
 refine pwp_reg fun R7 hR7 => ?_
 refine pops_mv (.inl rfl) rfl (by simp only [St.eval, upd_at, Nat.reduceEqDiff, if_true, if_false, dealPV] <;> rfl) ?_
 refine pops_to rfl fun M hM => ?_
 simp only [pop, St.eval, constSlot, upd_at, Nat.reduceEqDiff, if_true, if_false, popBin, binK, intK, strK, eqK, Tryd.underlying28, isPtr, eq_self, true_and, and_true, dealPV]
 refine hM _ _ ?_
 clear hM M
 refine pops_done (hR7 _ ?_)
 clear hR7 R7
 try simp only [thenK, scopeK]
 refine hN6 _ ?_
 clear hN6 N6
 refine pwp_cond (by simp only [St.eval, upd_at, Nat.reduceEqDiff, if_true, if_false, dealPV] <;> rfl) (fun c17 => ?_) (fun c17 => ?_)
 ·skip
  have hne : dealE d ≠ 0 := by simpa using c17
  refine pwp_then fun N8 hN8 => ?_
  refine pwp_reg fun R9 hR9 => ?_
  refine pops_mv (.inl rfl) rfl (by simp only [St.eval, upd_at, Nat.reduceEqDiff, if_true, if_false, dealPV] <;> rfl) ?_
  refine pops_mv (.inr rfl) rfl (by simp only [St.eval, constSlot] <;> rfl) ?_
  refine pops_mv (.inr rfl) rfl (by simp only [St.eval, upd_at, Nat.reduceEqDiff, if_true, if_false, dealPV] <;> rfl) ?_
  refine pops_done (hR9 _ ?_)
  clear hR9 R9
  try simp only [thenK, scopeK]
  refine hN8 _ ?_
  clear hN8 N8
  refine pwp_ret ?_
  simp only [thenK, blockK, scopeK, bodyK]
  clear hN3 N3
  refine ⟨_, rfl, endFun s1 ?_⟩
  try simp only [upd_at, Nat.reduceEqDiff, if_true, if_false, dealPV]
  all_goals
   rw [if_neg hne]
 ·skip
  have h0 : dealE d = 0 := by simpa using c17
  obtain ⟨a1, a2, a3, a4, a5, a6, a7, a8⟩ := deal_ok h0
  refine pwp_skip ?_
  try simp only [thenK, scopeK]
  refine hN3 _ ?_
  clear hN3 N3
  refine pwp_then fun N10 hN10 => ?_
  refine pwp_reg fun R11 hR11 => ?_
  refine pops_mv (.inr rfl) rfl (by simp only [St.eval, constSlot] <;> rfl) ?_
  refine pops_done (hR11 _ ?_)
  clear hR11 R11
  try simp only [thenK, scopeK]
  refine hN10 _ ?_
  clear hN10 N10
  refine pwp_then fun N12 hN12 => ?_
  refine pwp_then fun N13 hN13 => ?_
  refine pwp_reg fun R14 hR14 => ?_
  refine pops_to rfl fun M hM => ?_
  simp only [pop, St.eval, constSlot, upd_at, Nat.reduceEqDiff, if_true, if_false, popFieldAddr, fieldOf, List.drop_succ_cons, List.drop_zero, List.getElem?_toArray, List.getElem?_cons_zero, List.getElem?_cons_succ, Tryd.underlying26, sz22, dealPV]
  refine ⟨⟨_, rfl⟩, hM _ _ ?_⟩
  clear hM M
  refine pops_to rfl fun M hM => ?_
  simp only [pop, St.eval, constSlot, upd_at, Nat.reduceEqDiff, if_true, if_false, popLoad, loadK, isAggD, List.drop_zero, List.getElem?_toArray, List.getElem?_cons_zero, List.getElem?_cons_succ, Bool.false_eq_true, Tryd.underlying22, sz22, eq_self, true_and, and_true, dealPV]
  refine hM _ _ ?_
  clear hM M
  refine pops_to rfl fun M hM => ?_
  simp only [pop, St.eval, constSlot, upd_at, Nat.reduceEqDiff, if_true, if_false, popCall, List.toList_toArray, List.map_cons, List.map_nil, popBuiltin, popLen, lenOfSlot, List.length_map, Tryd.underlying22, eq_self, true_and, and_true, str_list, str_size, str_app, str_cut, str_get, dealPV, List.length_map]
  refine hM _ _ ?_
  clear hM M
  refine pops_mv (.inl rfl) rfl (by simp only [St.eval, constSlot] <;> rfl) ?_
  refine pops_done (hR14 _ ?_)
  clear hR14 R14
  try simp only [thenK, scopeK]
  refine hN13 _ ?_
  clear hN13 N13
  refine pwp_block ?_
  refine pwp_loop (fun k σ => ∃ (i : Nat), (k = d.acts.length - i) ∧ (i ≤ d.acts.length) ∧ (Same h σ.hp) ∧ (σ.env 1 = .sv (.one (.rop (dealPV d)))) ∧ (σ.env 5 = .sv (.one (pstr (actT d i)))) ∧ (σ.env 20 = .sv (.one (.ro false 6 (d.acts.map actPV)))) ∧ (σ.env 21 = .sv (.one (pint (d.acts.length : Nat)))) ∧ (σ.env 22 = .sv (.one (pint (i : Nat))))) _ ⟨_, .refl _ _, 0, rfl, ?_⟩ ?_
  · exact ⟨Nat.zero_le _, s1, by simp only [upd_at, Nat.reduceEqDiff, if_true, if_false, dealPV], by simp only [upd_at, Nat.reduceEqDiff, if_true, if_false] <;> rfl, by simp only [upd_at, Nat.reduceEqDiff, if_true, if_false, dealPV], by simp only [upd_at, Nat.reduceEqDiff, if_true, if_false, dealPV], by simp only [upd_at, Nat.reduceEqDiff, if_true, if_false] <;> rfl⟩
  ·rintro k ⟨e, hp0⟩ ⟨i, hk0, hx0_0, sl0, e0_1, e0_5, e0_20, e0_21, e0_22⟩
   simp only at sl0 e0_1 e0_5 e0_20 e0_21 e0_22
   refine pwp_then fun N15 hN15 => ?_
   refine pwp_reg fun R16 hR16 => ?_
   refine pops_to rfl fun M hM => ?_
   simp only [pop, St.eval, constSlot, upd_at, Nat.reduceEqDiff, if_true, if_false, popBin, binK, intK, strK, eqK, eq_self, true_and, and_true, e0_1, e0_5, e0_20, e0_21, e0_22, dealPV]
   refine hM _ _ ?_
   clear hM M
   refine pops_done (hR16 _ ?_)
   clear hR16 R16
   try simp only [thenK, scopeK]
   refine hN15 _ ?_
   clear hN15 N15
   refine pwp_then fun N17 hN17 => ?_
   refine pwp_cond (by simp only [St.eval, upd_at, Nat.reduceEqDiff, if_true, if_false, e0_1, e0_5, e0_20, e0_21, e0_22, dealPV] <;> rfl) (fun c23 => ?_) (fun c23 => ?_)
   ·skip
    have hi : i < d.acts.length := by have := of_decide_eq_true c23; omega
    obtain ⟨x, hx⟩ : ∃ x, d.acts[i]? = some x := ⟨_, List.getElem?_eq_getElem hi⟩
    have hget : (d.acts.map actPV)[i]? = some [pint x.kind, pint x.side, pstr x.src, pstr x.dst, pint x.size, pint x.time] := by simp only [List.getElem?_map, hx, Option.map_some]
    have hxm := List.mem_of_getElem? hx
    obtain ⟨k1, k2, k3, k4⟩ := actE_ok (a5 x hxm)
    obtain ⟨w1, ⟨wr, w2⟩, w3⟩ := word_at k1
    obtain ⟨z1, z2, z3, z4, z5⟩ := side_at k2
    obtain ⟨_, _, xi1, xi2⟩ := hI.1 x hxm
    have hq1 := quote_1024 k3
    have hq2 := quote_1024 k4
    have hw6 := word_len x.kind
    have hs1 := side_len x.side
    have hi1 := itoa_21 xi1
    have hi2 := itoa_21 xi2
    have hT := (deal_len h0 hI i).1
    have hL := actL_len (a5 x hxm) xi1 xi2
    refine pwp_skip ?_
    try simp only [thenK, scopeK]
    refine hN17 _ ?_
    clear hN17 N17
    refine pwp_then fun N18 hN18 => ?_
    refine pwp_block ?_
    refine pwp_then fun N19 hN19 => ?_
    refine pwp_reg fun R20 hR20 => ?_
    refine pops_to rfl fun M hM => ?_
    simp only [pop, St.eval, constSlot, upd_at, Nat.reduceEqDiff, if_true, if_false, popIndexAddr, Tryd.underlying22, sz35, eq_self, true_and, and_true, str_list, str_size, str_app, str_cut, str_get, e0_1, e0_5, e0_20, e0_21, e0_22, dealPV, hget, Int.toNat_natCast]
    refine ⟨Int.natCast_nonneg _, hM _ _ ?_⟩
    clear hM M
    refine pops_to rfl fun M hM => ?_
    simp only [pop, St.eval, constSlot, upd_at, Nat.reduceEqDiff, if_true, if_false, List.length_cons, List.length_nil, Nat.zero_add, Nat.reduceAdd, Nat.reduceLeDiff, List.take_zero, List.take_succ_cons, List.take_nil, List.drop_succ_cons, List.drop_zero, List.drop_nil, List.nil_append, List.cons_append, List.append_nil, and_self, List.getElem?_cons_zero, List.getElem?_cons_succ, List.set_cons_zero, List.set_cons_succ, Option.some.injEq, popLoad, loadK, isAggD, List.drop_zero, List.getElem?_toArray, List.getElem?_cons_zero, List.getElem?_cons_succ, Bool.false_eq_true, Tryd.underlying35, sz35, eq_self, true_and, and_true, e0_1, e0_5, e0_20, e0_21, e0_22, dealPV]
    refine hM _ _ ?_
    clear hM M
    refine pops_var (hpOk.same hb sl0) rfl ze35 (zs := [PV.val (.int .i64 0), PV.val (.int .i64 0), PV.val (.string ⟨#[]⟩), PV.val (.string ⟨#[]⟩), PV.val (.int .i64 0), PV.val (.int .i64 0)]) (by kernel_rfl) (by simp) (by simp only [St.eval, constSlot, slotCells, upd_at, Nat.reduceEqDiff, if_true, if_false, e0_1, e0_5, e0_20, e0_21, e0_22, dealPV] <;> rfl) (by rfl) (by exact Nat.succ_pos _) (by rw [sz35]; rfl) (fun hv21 sv21 => ?_)
    replace sv21 := Same.trans sl0 sv21
    refine pops_done (hR20 _ ?_)
    clear hR20 R20
    try simp only [thenK, scopeK]
    refine hN19 _ ?_
    clear hN19 N19
    refine pwp_then fun N22 hN22 => ?_
    refine pwp_dreg 16 mixed (by decide +kernel) fun R23 hR23 => ?_
    simp only [List.take_succ_cons, List.take_zero, List.drop_succ_cons, List.drop_zero]
    apply lex_to
    · rfl
    ·intro h' s' M hM
     simp only [pop, St.eval, constSlot, upd_at, Nat.reduceEqDiff, if_true, if_false, eq_self, true_and, and_true, str_list, str_size, str_app, str_cut, str_get, e0_1, e0_5, e0_20, e0_21, e0_22, dealPV, s'.1]
     exact hM _ (.refl _)
    apply lex_to
    · rfl
    ·intro h' s' M hM
     simp only [pop, St.eval, constSlot, upd_at, Nat.reduceEqDiff, if_true, if_false, popBuildSlice, slotCells, List.toList_toArray, List.map_cons, List.map_nil, List.mapM_cons, List.mapM_nil, Option.bind_eq_bind, Option.bind_some, Option.pure_def, Tryd.underlying24, sz9, ze9, by9, eq_self, true_and, and_true, str_list, str_size, str_app, str_cut, str_get, e0_1, e0_5, e0_20, e0_21, e0_22, dealPV, s'.1]
     exact ⟨by decide, by decide, rfl, rfl, by simp, by decide, rfl, hM _ (.refl _)⟩
    apply lex_to
    · rfl
    ·intro h' s' M hM
     simp only [pop, St.eval, constSlot, upd_at, Nat.reduceEqDiff, if_true, if_false, popFieldAddr, fieldOf, List.drop_succ_cons, List.drop_zero, List.getElem?_toArray, List.getElem?_cons_zero, List.getElem?_cons_succ, Tryd.underlying35, sz3, e0_1, e0_5, e0_20, e0_21, e0_22, dealPV, s'.1]
     exact ⟨⟨_, rfl⟩, hM _ (.refl _)⟩
    apply lex_to
    · rfl
    ·intro h' s' M hM
     simp only [pop, St.eval, constSlot, upd_at, Nat.reduceEqDiff, if_true, if_false, popLoad, loadK, isAggD, List.drop_zero, List.getElem?_toArray, List.getElem?_cons_zero, List.getElem?_cons_succ, Bool.false_eq_true, Tryd.underlying3, sz3, eq_self, true_and, and_true, e0_1, e0_5, e0_20, e0_21, e0_22, dealPV, s'.1]
     exact hM _ (.refl _)
    apply lex_to
    · rfl
    ·intro h' s' M hM
     simp only [pop, St.eval, constSlot, upd_at, Nat.reduceEqDiff, if_true, if_false, popIndexAddr, Tryd.underlying24, sz9, eq_self, true_and, and_true, str_list, str_size, str_app, str_cut, str_get, e0_1, e0_5, e0_20, e0_21, e0_22, dealPV, w3, s'.1]
     refine ⟨w1.1, ?_⟩
     exact hM _ (.refl _)
    apply lex_to
    · rfl
    ·intro h' s' M hM
     simp only [pop, St.eval, constSlot, upd_at, Nat.reduceEqDiff, if_true, if_false, popLoad, loadK, isAggD, List.drop_zero, List.getElem?_toArray, List.getElem?_cons_zero, List.getElem?_cons_succ, Bool.false_eq_true, Tryd.underlying9, sz9, eq_self, true_and, and_true, e0_1, e0_5, e0_20, e0_21, e0_22, dealPV, s'.1]
     exact hM _ (.refl _)
    apply lex_to
    · rfl
    ·intro h' s' M hM
     simp only [pop, St.eval, constSlot, upd_at, Nat.reduceEqDiff, if_true, if_false, popBin, binK, intK, strK, eqK, eq_self, true_and, and_true, str_list, str_size, str_app, str_cut, str_get, e0_1, e0_5, e0_20, e0_21, e0_22, dealPV, s'.1]
     refine ⟨by simp only [List.length_append, List.length_cons, List.length_nil]; omega, ?_⟩
     exact hM _ (.refl _)
    apply lex_to
    · rfl
    ·intro h' s' M hM
     simp only [pop, St.eval, constSlot, upd_at, Nat.reduceEqDiff, if_true, if_false, popFieldAddr, fieldOf, List.drop_succ_cons, List.drop_zero, List.getElem?_toArray, List.getElem?_cons_zero, List.getElem?_cons_succ, Tryd.underlying35, sz3, e0_1, e0_5, e0_20, e0_21, e0_22, dealPV, s'.1]
     exact ⟨⟨_, rfl⟩, hM _ (.refl _)⟩
    apply lex_to
    · rfl
    ·intro h' s' M hM
     simp only [pop, St.eval, constSlot, upd_at, Nat.reduceEqDiff, if_true, if_false, popLoad, loadK, isAggD, List.drop_zero, List.getElem?_toArray, List.getElem?_cons_zero, List.getElem?_cons_succ, Bool.false_eq_true, Tryd.underlying3, sz3, eq_self, true_and, and_true, e0_1, e0_5, e0_20, e0_21, e0_22, dealPV, s'.1]
     exact hM _ (.refl _)
    apply lex_to
    · rfl
    ·intro h' s' M hM
     simp only [pop, St.eval, constSlot, upd_at, Nat.reduceEqDiff, if_true, if_false, popFieldAddr, fieldOf, List.drop_succ_cons, List.drop_zero, List.getElem?_toArray, List.getElem?_cons_zero, List.getElem?_cons_succ, Tryd.underlying35, sz3, e0_1, e0_5, e0_20, e0_21, e0_22, dealPV, s'.1]
     exact ⟨⟨_, rfl⟩, hM _ (.refl _)⟩
    apply lex_to
    · rfl
    ·intro h' s' M hM
     simp only [pop, St.eval, constSlot, upd_at, Nat.reduceEqDiff, if_true, if_false, popLoad, loadK, isAggD, List.drop_zero, List.getElem?_toArray, List.getElem?_cons_zero, List.getElem?_cons_succ, Bool.false_eq_true, Tryd.underlying3, sz3, eq_self, true_and, and_true, e0_1, e0_5, e0_20, e0_21, e0_22, dealPV, s'.1]
     exact hM _ (.refl _)
    apply lex_to
    · rfl
    ·intro h' s' M hM
     simp only [pop, St.eval, constSlot, upd_at, Nat.reduceEqDiff, if_true, if_false, popBin, binK, intK, strK, eqK, eq_self, true_and, and_true, e0_1, e0_5, e0_20, e0_21, e0_22, dealPV, z3, s'.1]
     exact hM _ (.refl _)
    apply lex_to
    · rfl
    ·intro h' s' M hM
     simp only [pop, St.eval, constSlot, upd_at, Nat.reduceEqDiff, if_true, if_false, popSlice, boundOf, Option.map_none, Option.map_some, Tryd.underlying9, eq_self, true_and, and_true, str_list, str_size, str_app, str_cut, str_get, e0_1, e0_5, e0_20, e0_21, e0_22, dealPV, z5, s'.1]
     refine ⟨z4.1, z4.2.1, z4.2.2, ?_⟩
     exact hM _ (.refl _)
    apply lex_to
    · rfl
    ·intro h' s' M hM
     simp only [pop, St.eval, constSlot, upd_at, Nat.reduceEqDiff, if_true, if_false, popBin, binK, intK, strK, eqK, eq_self, true_and, and_true, str_list, str_size, str_app, str_cut, str_get, e0_1, e0_5, e0_20, e0_21, e0_22, dealPV, s'.1]
     refine ⟨by simp only [List.length_append, List.length_cons, List.length_nil]; omega, ?_⟩
     exact hM _ (.refl _)
    apply lex_to
    · rfl
    ·intro h' s' M hM
     simp only [pop, St.eval, constSlot, upd_at, Nat.reduceEqDiff, if_true, if_false, popBin, binK, intK, strK, eqK, eq_self, true_and, and_true, str_list, str_size, str_app, str_cut, str_get, e0_1, e0_5, e0_20, e0_21, e0_22, dealPV, s'.1]
     refine ⟨by simp only [List.length_append, List.length_cons, List.length_nil]; omega, ?_⟩
     exact hM _ (.refl _)
    apply lex_to
    · rfl
    ·intro h' s' M hM
     simp only [pop, St.eval, constSlot, upd_at, Nat.reduceEqDiff, if_true, if_false, eq_self, true_and, and_true, str_list, str_size, str_app, str_cut, str_get, e0_1, e0_5, e0_20, e0_21, e0_22, dealPV, s'.1]
     exact hM _ (.refl _)
    refine lex_done fun hq sq => ?_
    replace sq := Same.trans sv21 sq
    refine pops_done (hR23 _ ?_)
    clear hR23 R23
    try simp only [thenK, scopeK]
    refine hN22 _ ?_
    clear hN22 N22
    refine pwp_then fun N24 hN24 => ?_
    refine pwp_then fun N25 hN25 => ?_
    refine pwp_reg fun R26 hR26 => ?_
    refine pops_to rfl fun M hM => ?_
    simp only [pop, St.eval, constSlot, upd_at, Nat.reduceEqDiff, if_true, if_false, popFieldAddr, fieldOf, List.drop_succ_cons, List.drop_zero, List.getElem?_toArray, List.getElem?_cons_zero, List.getElem?_cons_succ, Tryd.underlying35, sz3, e0_1, e0_5, e0_20, e0_21, e0_22, dealPV]
    refine ⟨⟨_, rfl⟩, hM _ _ ?_⟩
    clear hM M
    refine pops_to rfl fun M hM => ?_
    simp only [pop, St.eval, constSlot, upd_at, Nat.reduceEqDiff, if_true, if_false, popLoad, loadK, isAggD, List.drop_zero, List.getElem?_toArray, List.getElem?_cons_zero, List.getElem?_cons_succ, Bool.false_eq_true, Tryd.underlying3, sz3, eq_self, true_and, and_true, e0_1, e0_5, e0_20, e0_21, e0_22, dealPV]
    refine hM _ _ ?_
    clear hM M
    refine pops_to rfl fun M hM => ?_
    simp only [pop, St.eval, constSlot, upd_at, Nat.reduceEqDiff, if_true, if_false, popBin, binK, intK, strK, eqK, Tryd.underlying3, isPtr, eq_self, true_and, and_true, e0_1, e0_5, e0_20, e0_21, e0_22, dealPV]
    refine hM _ _ ?_
    clear hM M
    refine pops_done (hR26 _ ?_)
    clear hR26 R26
    try simp only [thenK, scopeK]
    refine hN25 _ ?_
    clear hN25 N25
    refine pwp_cond (by simp only [St.eval, upd_at, Nat.reduceEqDiff, if_true, if_false, e0_1, e0_5, e0_20, e0_21, e0_22, dealPV] <;> rfl) (fun c43 => ?_) (fun c43 => ?_)
    ·skip
     have hk : x.kind = 1 := by simpa using c43
     refine pwp_dreg 12 mixed (by decide +kernel) fun R27 hR27 => ?_
     simp only [List.take_succ_cons, List.take_zero, List.drop_succ_cons, List.drop_zero]
     apply lex_to
     · rfl
     ·intro h' s' M hM
      simp only [pop, St.eval, constSlot, upd_at, Nat.reduceEqDiff, if_true, if_false, eq_self, true_and, and_true, str_list, str_size, str_app, str_cut, str_get, e0_1, e0_5, e0_20, e0_21, e0_22, dealPV, s'.1]
      exact hM _ (.refl _)
     apply lex_to
     · rfl
     ·intro h' s' M hM
      simp only [pop, St.eval, constSlot, upd_at, Nat.reduceEqDiff, if_true, if_false, popFieldAddr, fieldOf, List.drop_succ_cons, List.drop_zero, List.getElem?_toArray, List.getElem?_cons_zero, List.getElem?_cons_succ, Tryd.underlying35, sz3, e0_1, e0_5, e0_20, e0_21, e0_22, dealPV, s'.1]
      exact ⟨⟨_, rfl⟩, hM _ (.refl _)⟩
     apply lex_to
     · rfl
     ·intro h' s' M hM
      simp only [pop, St.eval, constSlot, upd_at, Nat.reduceEqDiff, if_true, if_false, popLoad, loadK, isAggD, List.drop_zero, List.getElem?_toArray, List.getElem?_cons_zero, List.getElem?_cons_succ, Bool.false_eq_true, Tryd.underlying3, sz3, eq_self, true_and, and_true, e0_1, e0_5, e0_20, e0_21, e0_22, dealPV, s'.1]
      exact hM _ (.refl _)
     apply lex_to
     · rfl
     ·intro h' s' M hM
      simp only [pop, St.eval, constSlot, upd_at, Nat.reduceEqDiff, if_true, if_false, popCall, List.toList_toArray, List.map_cons, List.map_nil, svs, List.mapM_cons, List.mapM_nil, Option.bind_eq_bind, Option.bind_some, Option.pure_def, List.append_nil, List.cons_append, List.nil_append, str_size, e0_1, e0_5, e0_20, e0_21, e0_22, dealPV, s'.1]
      refine PFun.use (itoa_fun W0 hp x.size xi1) fun hp s => hM _ s
     apply lex_to
     · rfl
     ·intro h' s' M hM
      simp only [pop, St.eval, constSlot, upd_at, Nat.reduceEqDiff, if_true, if_false, popBin, binK, intK, strK, eqK, eq_self, true_and, and_true, str_list, str_size, str_app, str_cut, str_get, e0_1, e0_5, e0_20, e0_21, e0_22, dealPV, s'.1]
      refine ⟨by simp only [List.length_append, List.length_cons, List.length_nil]; omega, ?_⟩
      exact hM _ (.refl _)
     apply lex_to
     · rfl
     ·intro h' s' M hM
      simp only [pop, St.eval, constSlot, upd_at, Nat.reduceEqDiff, if_true, if_false, popBin, binK, intK, strK, eqK, eq_self, true_and, and_true, str_list, str_size, str_app, str_cut, str_get, e0_1, e0_5, e0_20, e0_21, e0_22, dealPV, s'.1]
      refine ⟨by simp only [List.length_append, List.length_cons, List.length_nil]; omega, ?_⟩
      exact hM _ (.refl _)
     apply lex_to
     · rfl
     ·intro h' s' M hM
      simp only [pop, St.eval, constSlot, upd_at, Nat.reduceEqDiff, if_true, if_false, popFieldAddr, fieldOf, List.drop_succ_cons, List.drop_zero, List.getElem?_toArray, List.getElem?_cons_zero, List.getElem?_cons_succ, Tryd.underlying35, sz3, e0_1, e0_5, e0_20, e0_21, e0_22, dealPV, s'.1]
      exact ⟨⟨_, rfl⟩, hM _ (.refl _)⟩
     apply lex_to
     · rfl
     ·intro h' s' M hM
      simp only [pop, St.eval, constSlot, upd_at, Nat.reduceEqDiff, if_true, if_false, popLoad, loadK, isAggD, List.drop_zero, List.getElem?_toArray, List.getElem?_cons_zero, List.getElem?_cons_succ, Bool.false_eq_true, Tryd.underlying3, sz3, eq_self, true_and, and_true, e0_1, e0_5, e0_20, e0_21, e0_22, dealPV, s'.1]
      exact hM _ (.refl _)
     apply lex_to
     · rfl
     ·intro h' s' M hM
      simp only [pop, St.eval, constSlot, upd_at, Nat.reduceEqDiff, if_true, if_false, popCall, List.toList_toArray, List.map_cons, List.map_nil, svs, List.mapM_cons, List.mapM_nil, Option.bind_eq_bind, Option.bind_some, Option.pure_def, List.append_nil, List.cons_append, List.nil_append, str_size, e0_1, e0_5, e0_20, e0_21, e0_22, dealPV, s'.1]
      refine PFun.use (itoa_fun W0 hp x.time xi2) fun hp s => hM _ s
     apply lex_to
     · rfl
     ·intro h' s' M hM
      simp only [pop, St.eval, constSlot, upd_at, Nat.reduceEqDiff, if_true, if_false, popBin, binK, intK, strK, eqK, eq_self, true_and, and_true, str_list, str_size, str_app, str_cut, str_get, e0_1, e0_5, e0_20, e0_21, e0_22, dealPV, s'.1]
      refine ⟨by simp only [List.length_append, List.length_cons, List.length_nil]; omega, ?_⟩
      exact hM _ (.refl _)
     apply lex_to
     · rfl
     ·intro h' s' M hM
      simp only [pop, St.eval, constSlot, upd_at, Nat.reduceEqDiff, if_true, if_false, popBin, binK, intK, strK, eqK, eq_self, true_and, and_true, str_list, str_size, str_app, str_cut, str_get, e0_1, e0_5, e0_20, e0_21, e0_22, dealPV, s'.1]
      refine ⟨by simp only [List.length_append, List.length_cons, List.length_nil]; omega, ?_⟩
      exact hM _ (.refl _)
     apply lex_to
     · rfl
     ·intro h' s' M hM
      simp only [pop, St.eval, constSlot, upd_at, Nat.reduceEqDiff, if_true, if_false, eq_self, true_and, and_true, str_list, str_size, str_app, str_cut, str_get, e0_1, e0_5, e0_20, e0_21, e0_22, dealPV, s'.1]
      exact hM _ (.refl _)
     refine lex_done fun hq2 sq2 => ?_
     replace sq2 := Same.trans sq sq2
     refine pops_done (hR27 _ ?_)
     clear hR27 R27
     try simp only [thenK, scopeK]
     refine hN24 _ ?_
     clear hN24 N24
     refine pwp_then fun N28 hN28 => ?_
     refine pwp_reg fun R29 hR29 => ?_
     refine pops_mv (.inl rfl) rfl (by simp only [St.eval, upd_at, Nat.reduceEqDiff, if_true, if_false, e0_1, e0_5, e0_20, e0_21, e0_22, dealPV] <;> rfl) ?_
     refine pops_to rfl fun M hM => ?_
     simp only [pop, St.eval, constSlot, upd_at, Nat.reduceEqDiff, if_true, if_false, popFieldAddr, fieldOf, List.drop_succ_cons, List.drop_zero, List.getElem?_toArray, List.getElem?_cons_zero, List.getElem?_cons_succ, Tryd.underlying35, sz9, e0_1, e0_5, e0_20, e0_21, e0_22, dealPV]
     refine ⟨⟨_, rfl⟩, hM _ _ ?_⟩
     clear hM M
     refine pops_to rfl fun M hM => ?_
     simp only [pop, St.eval, constSlot, upd_at, Nat.reduceEqDiff, if_true, if_false, popLoad, loadK, isAggD, List.drop_zero, List.getElem?_toArray, List.getElem?_cons_zero, List.getElem?_cons_succ, Bool.false_eq_true, Tryd.underlying9, sz9, eq_self, true_and, and_true, e0_1, e0_5, e0_20, e0_21, e0_22, dealPV]
     refine hM _ _ ?_
     clear hM M
     refine pops_to rfl fun M hM => ?_
     simp only [pop, St.eval, constSlot, upd_at, Nat.reduceEqDiff, if_true, if_false, popCall, List.toList_toArray, List.map_cons, List.map_nil, svs, List.mapM_cons, List.mapM_nil, Option.bind_eq_bind, Option.bind_some, Option.pure_def, List.append_nil, List.cons_append, List.nil_append, str_size, e0_1, e0_5, e0_20, e0_21, e0_22, dealPV]
     refine PFun.use (quotePath_fun W0 x.src (by omega)) fun h2 s2 => hM _ _ ?_
     replace s2 := Same.trans sq2 s2
     clear hM M
     refine pops_to rfl fun M hM => ?_
     simp only [pop, St.eval, constSlot, upd_at, Nat.reduceEqDiff, if_true, if_false, popBin, binK, intK, strK, eqK, eq_self, true_and, and_true, str_list, str_size, str_app, str_cut, str_get, e0_1, e0_5, e0_20, e0_21, e0_22, dealPV]
     refine ⟨by simp only [List.length_append, List.length_cons, List.length_nil]; omega, hM _ _ ?_⟩
     clear hM M
     refine pops_to rfl fun M hM => ?_
     simp only [pop, St.eval, constSlot, upd_at, Nat.reduceEqDiff, if_true, if_false, popBin, binK, intK, strK, eqK, eq_self, true_and, and_true, str_list, str_size, str_app, str_cut, str_get, e0_1, e0_5, e0_20, e0_21, e0_22, dealPV]
     refine ⟨by simp only [List.length_append, List.length_cons, List.length_nil]; omega, hM _ _ ?_⟩
     clear hM M
     refine pops_mv (.inr rfl) rfl (by simp only [St.eval, upd_at, Nat.reduceEqDiff, if_true, if_false, e0_1, e0_5, e0_20, e0_21, e0_22, dealPV] <;> rfl) ?_
     refine pops_done (hR29 _ ?_)
     clear hR29 R29
     try simp only [thenK, scopeK]
     refine hN28 _ ?_
     clear hN28 N28
     refine pwp_then fun N30 hN30 => ?_
     refine pwp_then fun N31 hN31 => ?_
     refine pwp_reg fun R32 hR32 => ?_
     refine pops_to rfl fun M hM => ?_
     simp only [pop, St.eval, constSlot, upd_at, Nat.reduceEqDiff, if_true, if_false, popFieldAddr, fieldOf, List.drop_succ_cons, List.drop_zero, List.getElem?_toArray, List.getElem?_cons_zero, List.getElem?_cons_succ, Tryd.underlying35, sz9, e0_1, e0_5, e0_20, e0_21, e0_22, dealPV]
     refine ⟨⟨_, rfl⟩, hM _ _ ?_⟩
     clear hM M
     refine pops_to rfl fun M hM => ?_
     simp only [pop, St.eval, constSlot, upd_at, Nat.reduceEqDiff, if_true, if_false, popLoad, loadK, isAggD, List.drop_zero, List.getElem?_toArray, List.getElem?_cons_zero, List.getElem?_cons_succ, Bool.false_eq_true, Tryd.underlying9, sz9, eq_self, true_and, and_true, e0_1, e0_5, e0_20, e0_21, e0_22, dealPV]
     refine hM _ _ ?_
     clear hM M
     refine pops_to rfl fun M hM => ?_
     simp only [pop, St.eval, constSlot, upd_at, Nat.reduceEqDiff, if_true, if_false, popBin, binK, intK, strK, eqK, Tryd.underlying9, isPtr, eq_self, true_and, and_true, str_list, str_size, str_app, str_cut, str_get, e0_1, e0_5, e0_20, e0_21, e0_22, dealPV]
     refine hM _ _ ?_
     clear hM M
     refine pops_done (hR32 _ ?_)
     clear hR32 R32
     try simp only [thenK, scopeK]
     refine hN31 _ ?_
     clear hN31 N31
     refine pwp_cond (by simp only [St.eval, upd_at, Nat.reduceEqDiff, if_true, if_false, e0_1, e0_5, e0_20, e0_21, e0_22, dealPV] <;> rfl) (fun c63 => ?_) (fun c63 => ?_)
     ·skip
      have hd : ¬ x.dst = [] := by simpa using c63
      first
        | have hw := actW_put2 hk hd
        | have hw := actW_no2 hk hd
      refine pwp_reg fun R33 hR33 => ?_
      refine pops_mv (.inl rfl) rfl (by simp only [St.eval, upd_at, Nat.reduceEqDiff, if_true, if_false, e0_1, e0_5, e0_20, e0_21, e0_22, dealPV] <;> rfl) ?_
      refine pops_to rfl fun M hM => ?_
      simp only [pop, St.eval, constSlot, upd_at, Nat.reduceEqDiff, if_true, if_false, popFieldAddr, fieldOf, List.drop_succ_cons, List.drop_zero, List.getElem?_toArray, List.getElem?_cons_zero, List.getElem?_cons_succ, Tryd.underlying35, sz9, e0_1, e0_5, e0_20, e0_21, e0_22, dealPV]
      refine ⟨⟨_, rfl⟩, hM _ _ ?_⟩
      clear hM M
      refine pops_to rfl fun M hM => ?_
      simp only [pop, St.eval, constSlot, upd_at, Nat.reduceEqDiff, if_true, if_false, popLoad, loadK, isAggD, List.drop_zero, List.getElem?_toArray, List.getElem?_cons_zero, List.getElem?_cons_succ, Bool.false_eq_true, Tryd.underlying9, sz9, eq_self, true_and, and_true, e0_1, e0_5, e0_20, e0_21, e0_22, dealPV]
      refine hM _ _ ?_
      clear hM M
      refine pops_to rfl fun M hM => ?_
      simp only [pop, St.eval, constSlot, upd_at, Nat.reduceEqDiff, if_true, if_false, popCall, List.toList_toArray, List.map_cons, List.map_nil, svs, List.mapM_cons, List.mapM_nil, Option.bind_eq_bind, Option.bind_some, Option.pure_def, List.append_nil, List.cons_append, List.nil_append, str_size, e0_1, e0_5, e0_20, e0_21, e0_22, dealPV]
      refine PFun.use (quotePath_fun W0 x.dst (by omega)) fun h3 s3 => hM _ _ ?_
      replace s3 := Same.trans s2 s3
      clear hM M
      refine pops_to rfl fun M hM => ?_
      simp only [pop, St.eval, constSlot, upd_at, Nat.reduceEqDiff, if_true, if_false, popBin, binK, intK, strK, eqK, eq_self, true_and, and_true, str_list, str_size, str_app, str_cut, str_get, e0_1, e0_5, e0_20, e0_21, e0_22, dealPV]
      refine ⟨by simp only [List.length_append, List.length_cons, List.length_nil]; omega, hM _ _ ?_⟩
      clear hM M
      refine pops_to rfl fun M hM => ?_
      simp only [pop, St.eval, constSlot, upd_at, Nat.reduceEqDiff, if_true, if_false, popBin, binK, intK, strK, eqK, eq_self, true_and, and_true, str_list, str_size, str_app, str_cut, str_get, e0_1, e0_5, e0_20, e0_21, e0_22, dealPV]
      refine ⟨by simp only [List.length_append, List.length_cons, List.length_nil]; omega, hM _ _ ?_⟩
      clear hM M
      refine pops_mv (.inr rfl) rfl (by simp only [St.eval, upd_at, Nat.reduceEqDiff, if_true, if_false, e0_1, e0_5, e0_20, e0_21, e0_22, dealPV] <;> rfl) ?_
      refine pops_done (hR33 _ ?_)
      clear hR33 R33
      try simp only [thenK, scopeK]
      refine hN30 _ ?_
      clear hN30 N30
      refine pwp_reg fun R34 hR34 => ?_
      refine pops_mv (.inl rfl) rfl (by simp only [St.eval, upd_at, Nat.reduceEqDiff, if_true, if_false, e0_1, e0_5, e0_20, e0_21, e0_22, dealPV] <;> rfl) ?_
      refine pops_to rfl fun M hM => ?_
      simp only [pop, St.eval, constSlot, upd_at, Nat.reduceEqDiff, if_true, if_false, popBin, binK, intK, strK, eqK, eq_self, true_and, and_true, str_list, str_size, str_app, str_cut, str_get, e0_1, e0_5, e0_20, e0_21, e0_22, dealPV]
      refine ⟨by simp only [List.length_append, List.length_cons, List.length_nil]; omega, hM _ _ ?_⟩
      clear hM M
      refine pops_mv (.inr rfl) rfl (by simp only [St.eval, upd_at, Nat.reduceEqDiff, if_true, if_false, e0_1, e0_5, e0_20, e0_21, e0_22, dealPV] <;> rfl) ?_
      refine pops_done (hR34 _ ?_)
      clear hR34 R34
      try simp only [blockK, thenK, scopeK]
      try simp only [thenK, scopeK]
      refine hN18 _ ?_
      clear hN18 N18
      refine pwp_reg fun R35 hR35 => ?_
      refine pops_to rfl fun M hM => ?_
      simp only [pop, St.eval, constSlot, upd_at, Nat.reduceEqDiff, if_true, if_false, popBin, binK, intK, strK, eqK, eq_self, true_and, and_true, e0_1, e0_5, e0_20, e0_21, e0_22, dealPV]
      refine hM _ _ ?_
      clear hM M
      refine pops_mv (.inl rfl) rfl (by simp only [St.eval, upd_at, Nat.reduceEqDiff, if_true, if_false, e0_1, e0_5, e0_20, e0_21, e0_22, dealPV] <;> rfl) ?_
      refine pops_done (hR35 _ ?_)
      clear hR35 R35
      try simp only [thenK, scopeK]
      exact ⟨_, by omega, _, .refl _ _, i + 1, rfl, by omega, s3, by simp only [upd_at, Nat.reduceEqDiff, if_true, if_false, e0_1, e0_5, e0_20, e0_21, e0_22, dealPV], by simp only [upd_at, Nat.reduceEqDiff, if_true, if_false, e0_5]; refine congrArg (fun l : List UInt8 => Slot.sv (SV.one (pstr l))) ?_; rw [actT_step hx, actL, hw]; simp [lineW_cons, lineW1, REFUSED, EQUAL, CONFLICT], by simp only [upd_at, Nat.reduceEqDiff, if_true, if_false, e0_1, e0_5, e0_20, e0_21, e0_22, dealPV], by simp only [upd_at, Nat.reduceEqDiff, if_true, if_false, e0_1, e0_5, e0_20, e0_21, e0_22, dealPV], by simp only [upd_at, Nat.reduceEqDiff, if_true, if_false, e0_22]; rw [wrap_succ (by omega)]⟩
     ·skip
      have hd : x.dst = [] := by simpa using c63
      first
        | have hw := actW_put hk hd
        | have hw := actW_no hk hd
      refine pwp_skip ?_
      try simp only [thenK, scopeK]
      refine hN30 _ ?_
      clear hN30 N30
      refine pwp_reg fun R36 hR36 => ?_
      refine pops_mv (.inl rfl) rfl (by simp only [St.eval, upd_at, Nat.reduceEqDiff, if_true, if_false, e0_1, e0_5, e0_20, e0_21, e0_22, dealPV] <;> rfl) ?_
      refine pops_to rfl fun M hM => ?_
      simp only [pop, St.eval, constSlot, upd_at, Nat.reduceEqDiff, if_true, if_false, popBin, binK, intK, strK, eqK, eq_self, true_and, and_true, str_list, str_size, str_app, str_cut, str_get, e0_1, e0_5, e0_20, e0_21, e0_22, dealPV]
      refine ⟨by simp only [List.length_append, List.length_cons, List.length_nil]; omega, hM _ _ ?_⟩
      clear hM M
      refine pops_mv (.inr rfl) rfl (by simp only [St.eval, upd_at, Nat.reduceEqDiff, if_true, if_false, e0_1, e0_5, e0_20, e0_21, e0_22, dealPV] <;> rfl) ?_
      refine pops_done (hR36 _ ?_)
      clear hR36 R36
      try simp only [blockK, thenK, scopeK]
      try simp only [thenK, scopeK]
      refine hN18 _ ?_
      clear hN18 N18
      refine pwp_reg fun R37 hR37 => ?_
      refine pops_to rfl fun M hM => ?_
      simp only [pop, St.eval, constSlot, upd_at, Nat.reduceEqDiff, if_true, if_false, popBin, binK, intK, strK, eqK, eq_self, true_and, and_true, e0_1, e0_5, e0_20, e0_21, e0_22, dealPV]
      refine hM _ _ ?_
      clear hM M
      refine pops_mv (.inl rfl) rfl (by simp only [St.eval, upd_at, Nat.reduceEqDiff, if_true, if_false, e0_1, e0_5, e0_20, e0_21, e0_22, dealPV] <;> rfl) ?_
      refine pops_done (hR37 _ ?_)
      clear hR37 R37
      try simp only [thenK, scopeK]
      exact ⟨_, by omega, _, .refl _ _, i + 1, rfl, by omega, s2, by simp only [upd_at, Nat.reduceEqDiff, if_true, if_false, e0_1, e0_5, e0_20, e0_21, e0_22, dealPV], by simp only [upd_at, Nat.reduceEqDiff, if_true, if_false, e0_5]; refine congrArg (fun l : List UInt8 => Slot.sv (SV.one (pstr l))) ?_; rw [actT_step hx, actL, hw]; simp [lineW_cons, lineW1, REFUSED, EQUAL, CONFLICT], by simp only [upd_at, Nat.reduceEqDiff, if_true, if_false, e0_1, e0_5, e0_20, e0_21, e0_22, dealPV], by simp only [upd_at, Nat.reduceEqDiff, if_true, if_false, e0_1, e0_5, e0_20, e0_21, e0_22, dealPV], by simp only [upd_at, Nat.reduceEqDiff, if_true, if_false, e0_22]; rw [wrap_succ (by omega)]⟩
    ·skip
     have hk : ¬ x.kind = 1 := by simpa using c43
     refine pwp_skip ?_
     try simp only [thenK, scopeK]
     refine hN24 _ ?_
     clear hN24 N24
     refine pwp_then fun N38 hN38 => ?_
     refine pwp_reg fun R39 hR39 => ?_
     refine pops_mv (.inl rfl) rfl (by simp only [St.eval, upd_at, Nat.reduceEqDiff, if_true, if_false, e0_1, e0_5, e0_20, e0_21, e0_22, dealPV] <;> rfl) ?_
     refine pops_to rfl fun M hM => ?_
     simp only [pop, St.eval, constSlot, upd_at, Nat.reduceEqDiff, if_true, if_false, popFieldAddr, fieldOf, List.drop_succ_cons, List.drop_zero, List.getElem?_toArray, List.getElem?_cons_zero, List.getElem?_cons_succ, Tryd.underlying35, sz9, e0_1, e0_5, e0_20, e0_21, e0_22, dealPV]
     refine ⟨⟨_, rfl⟩, hM _ _ ?_⟩
     clear hM M
     refine pops_to rfl fun M hM => ?_
     simp only [pop, St.eval, constSlot, upd_at, Nat.reduceEqDiff, if_true, if_false, popLoad, loadK, isAggD, List.drop_zero, List.getElem?_toArray, List.getElem?_cons_zero, List.getElem?_cons_succ, Bool.false_eq_true, Tryd.underlying9, sz9, eq_self, true_and, and_true, e0_1, e0_5, e0_20, e0_21, e0_22, dealPV]
     refine hM _ _ ?_
     clear hM M
     refine pops_to rfl fun M hM => ?_
     simp only [pop, St.eval, constSlot, upd_at, Nat.reduceEqDiff, if_true, if_false, popCall, List.toList_toArray, List.map_cons, List.map_nil, svs, List.mapM_cons, List.mapM_nil, Option.bind_eq_bind, Option.bind_some, Option.pure_def, List.append_nil, List.cons_append, List.nil_append, str_size, e0_1, e0_5, e0_20, e0_21, e0_22, dealPV]
     refine PFun.use (quotePath_fun W0 x.src (by omega)) fun h4 s4 => hM _ _ ?_
     replace s4 := Same.trans sq s4
     clear hM M
     refine pops_to rfl fun M hM => ?_
     simp only [pop, St.eval, constSlot, upd_at, Nat.reduceEqDiff, if_true, if_false, popBin, binK, intK, strK, eqK, eq_self, true_and, and_true, str_list, str_size, str_app, str_cut, str_get, e0_1, e0_5, e0_20, e0_21, e0_22, dealPV]
     refine ⟨by simp only [List.length_append, List.length_cons, List.length_nil]; omega, hM _ _ ?_⟩
     clear hM M
     refine pops_to rfl fun M hM => ?_
     simp only [pop, St.eval, constSlot, upd_at, Nat.reduceEqDiff, if_true, if_false, popBin, binK, intK, strK, eqK, eq_self, true_and, and_true, str_list, str_size, str_app, str_cut, str_get, e0_1, e0_5, e0_20, e0_21, e0_22, dealPV]
     refine ⟨by simp only [List.length_append, List.length_cons, List.length_nil]; omega, hM _ _ ?_⟩
     clear hM M
     refine pops_mv (.inr rfl) rfl (by simp only [St.eval, upd_at, Nat.reduceEqDiff, if_true, if_false, e0_1, e0_5, e0_20, e0_21, e0_22, dealPV] <;> rfl) ?_
     refine pops_done (hR39 _ ?_)
     clear hR39 R39
     try simp only [thenK, scopeK]
     refine hN38 _ ?_
     clear hN38 N38
     refine pwp_then fun N40 hN40 => ?_
     refine pwp_then fun N41 hN41 => ?_
     refine pwp_reg fun R42 hR42 => ?_
     refine pops_to rfl fun M hM => ?_
     simp only [pop, St.eval, constSlot, upd_at, Nat.reduceEqDiff, if_true, if_false, popFieldAddr, fieldOf, List.drop_succ_cons, List.drop_zero, List.getElem?_toArray, List.getElem?_cons_zero, List.getElem?_cons_succ, Tryd.underlying35, sz9, e0_1, e0_5, e0_20, e0_21, e0_22, dealPV]
     refine ⟨⟨_, rfl⟩, hM _ _ ?_⟩
     clear hM M
     refine pops_to rfl fun M hM => ?_
     simp only [pop, St.eval, constSlot, upd_at, Nat.reduceEqDiff, if_true, if_false, popLoad, loadK, isAggD, List.drop_zero, List.getElem?_toArray, List.getElem?_cons_zero, List.getElem?_cons_succ, Bool.false_eq_true, Tryd.underlying9, sz9, eq_self, true_and, and_true, e0_1, e0_5, e0_20, e0_21, e0_22, dealPV]
     refine hM _ _ ?_
     clear hM M
     refine pops_to rfl fun M hM => ?_
     simp only [pop, St.eval, constSlot, upd_at, Nat.reduceEqDiff, if_true, if_false, popBin, binK, intK, strK, eqK, Tryd.underlying9, isPtr, eq_self, true_and, and_true, str_list, str_size, str_app, str_cut, str_get, e0_1, e0_5, e0_20, e0_21, e0_22, dealPV]
     refine hM _ _ ?_
     clear hM M
     refine pops_done (hR42 _ ?_)
     clear hR42 R42
     try simp only [thenK, scopeK]
     refine hN41 _ ?_
     clear hN41 N41
     refine pwp_cond (by simp only [St.eval, upd_at, Nat.reduceEqDiff, if_true, if_false, e0_1, e0_5, e0_20, e0_21, e0_22, dealPV] <;> rfl) (fun c63 => ?_) (fun c63 => ?_)
     ·skip
      have hd : ¬ x.dst = [] := by simpa using c63
      first
        | have hw := actW_put2 hk hd
        | have hw := actW_no2 hk hd
      refine pwp_reg fun R43 hR43 => ?_
      refine pops_mv (.inl rfl) rfl (by simp only [St.eval, upd_at, Nat.reduceEqDiff, if_true, if_false, e0_1, e0_5, e0_20, e0_21, e0_22, dealPV] <;> rfl) ?_
      refine pops_to rfl fun M hM => ?_
      simp only [pop, St.eval, constSlot, upd_at, Nat.reduceEqDiff, if_true, if_false, popFieldAddr, fieldOf, List.drop_succ_cons, List.drop_zero, List.getElem?_toArray, List.getElem?_cons_zero, List.getElem?_cons_succ, Tryd.underlying35, sz9, e0_1, e0_5, e0_20, e0_21, e0_22, dealPV]
      refine ⟨⟨_, rfl⟩, hM _ _ ?_⟩
      clear hM M
      refine pops_to rfl fun M hM => ?_
      simp only [pop, St.eval, constSlot, upd_at, Nat.reduceEqDiff, if_true, if_false, popLoad, loadK, isAggD, List.drop_zero, List.getElem?_toArray, List.getElem?_cons_zero, List.getElem?_cons_succ, Bool.false_eq_true, Tryd.underlying9, sz9, eq_self, true_and, and_true, e0_1, e0_5, e0_20, e0_21, e0_22, dealPV]
      refine hM _ _ ?_
      clear hM M
      refine pops_to rfl fun M hM => ?_
      simp only [pop, St.eval, constSlot, upd_at, Nat.reduceEqDiff, if_true, if_false, popCall, List.toList_toArray, List.map_cons, List.map_nil, svs, List.mapM_cons, List.mapM_nil, Option.bind_eq_bind, Option.bind_some, Option.pure_def, List.append_nil, List.cons_append, List.nil_append, str_size, e0_1, e0_5, e0_20, e0_21, e0_22, dealPV]
      refine PFun.use (quotePath_fun W0 x.dst (by omega)) fun h5 s5 => hM _ _ ?_
      replace s5 := Same.trans s4 s5
      clear hM M
      refine pops_to rfl fun M hM => ?_
      simp only [pop, St.eval, constSlot, upd_at, Nat.reduceEqDiff, if_true, if_false, popBin, binK, intK, strK, eqK, eq_self, true_and, and_true, str_list, str_size, str_app, str_cut, str_get, e0_1, e0_5, e0_20, e0_21, e0_22, dealPV]
      refine ⟨by simp only [List.length_append, List.length_cons, List.length_nil]; omega, hM _ _ ?_⟩
      clear hM M
      refine pops_to rfl fun M hM => ?_
      simp only [pop, St.eval, constSlot, upd_at, Nat.reduceEqDiff, if_true, if_false, popBin, binK, intK, strK, eqK, eq_self, true_and, and_true, str_list, str_size, str_app, str_cut, str_get, e0_1, e0_5, e0_20, e0_21, e0_22, dealPV]
      refine ⟨by simp only [List.length_append, List.length_cons, List.length_nil]; omega, hM _ _ ?_⟩
      clear hM M
      refine pops_mv (.inr rfl) rfl (by simp only [St.eval, upd_at, Nat.reduceEqDiff, if_true, if_false, e0_1, e0_5, e0_20, e0_21, e0_22, dealPV] <;> rfl) ?_
      refine pops_done (hR43 _ ?_)
      clear hR43 R43
      try simp only [thenK, scopeK]
      refine hN40 _ ?_
      clear hN40 N40
      refine pwp_reg fun R44 hR44 => ?_
      refine pops_mv (.inl rfl) rfl (by simp only [St.eval, upd_at, Nat.reduceEqDiff, if_true, if_false, e0_1, e0_5, e0_20, e0_21, e0_22, dealPV] <;> rfl) ?_
      refine pops_to rfl fun M hM => ?_
      simp only [pop, St.eval, constSlot, upd_at, Nat.reduceEqDiff, if_true, if_false, popBin, binK, intK, strK, eqK, eq_self, true_and, and_true, str_list, str_size, str_app, str_cut, str_get, e0_1, e0_5, e0_20, e0_21, e0_22, dealPV]
      refine ⟨by simp only [List.length_append, List.length_cons, List.length_nil]; omega, hM _ _ ?_⟩
      clear hM M
      refine pops_mv (.inr rfl) rfl (by simp only [St.eval, upd_at, Nat.reduceEqDiff, if_true, if_false, e0_1, e0_5, e0_20, e0_21, e0_22, dealPV] <;> rfl) ?_
      refine pops_done (hR44 _ ?_)
      clear hR44 R44
      try simp only [blockK, thenK, scopeK]
      try simp only [thenK, scopeK]
      refine hN18 _ ?_
      clear hN18 N18
      refine pwp_reg fun R45 hR45 => ?_
      refine pops_to rfl fun M hM => ?_
      simp only [pop, St.eval, constSlot, upd_at, Nat.reduceEqDiff, if_true, if_false, popBin, binK, intK, strK, eqK, eq_self, true_and, and_true, e0_1, e0_5, e0_20, e0_21, e0_22, dealPV]
      refine hM _ _ ?_
      clear hM M
      refine pops_mv (.inl rfl) rfl (by simp only [St.eval, upd_at, Nat.reduceEqDiff, if_true, if_false, e0_1, e0_5, e0_20, e0_21, e0_22, dealPV] <;> rfl) ?_
      refine pops_done (hR45 _ ?_)
      clear hR45 R45
      try simp only [thenK, scopeK]
      exact ⟨_, by omega, _, .refl _ _, i + 1, rfl, by omega, s5, by simp only [upd_at, Nat.reduceEqDiff, if_true, if_false, e0_1, e0_5, e0_20, e0_21, e0_22, dealPV], by simp only [upd_at, Nat.reduceEqDiff, if_true, if_false, e0_5]; refine congrArg (fun l : List UInt8 => Slot.sv (SV.one (pstr l))) ?_; rw [actT_step hx, actL, hw]; simp [lineW_cons, lineW1, REFUSED, EQUAL, CONFLICT], by simp only [upd_at, Nat.reduceEqDiff, if_true, if_false, e0_1, e0_5, e0_20, e0_21, e0_22, dealPV], by simp only [upd_at, Nat.reduceEqDiff, if_true, if_false, e0_1, e0_5, e0_20, e0_21, e0_22, dealPV], by simp only [upd_at, Nat.reduceEqDiff, if_true, if_false, e0_22]; rw [wrap_succ (by omega)]⟩
     ·skip
      have hd : x.dst = [] := by simpa using c63
      first
        | have hw := actW_put hk hd
        | have hw := actW_no hk hd
      refine pwp_skip ?_
      try simp only [thenK, scopeK]
      refine hN40 _ ?_
      clear hN40 N40
      refine pwp_reg fun R46 hR46 => ?_
      refine pops_mv (.inl rfl) rfl (by simp only [St.eval, upd_at, Nat.reduceEqDiff, if_true, if_false, e0_1, e0_5, e0_20, e0_21, e0_22, dealPV] <;> rfl) ?_
      refine pops_to rfl fun M hM => ?_
      simp only [pop, St.eval, constSlot, upd_at, Nat.reduceEqDiff, if_true, if_false, popBin, binK, intK, strK, eqK, eq_self, true_and, and_true, str_list, str_size, str_app, str_cut, str_get, e0_1, e0_5, e0_20, e0_21, e0_22, dealPV]
      refine ⟨by simp only [List.length_append, List.length_cons, List.length_nil]; omega, hM _ _ ?_⟩
      clear hM M
      refine pops_mv (.inr rfl) rfl (by simp only [St.eval, upd_at, Nat.reduceEqDiff, if_true, if_false, e0_1, e0_5, e0_20, e0_21, e0_22, dealPV] <;> rfl) ?_
      refine pops_done (hR46 _ ?_)
      clear hR46 R46
      try simp only [blockK, thenK, scopeK]
      try simp only [thenK, scopeK]
      refine hN18 _ ?_
      clear hN18 N18
      refine pwp_reg fun R47 hR47 => ?_
      refine pops_to rfl fun M hM => ?_
      simp only [pop, St.eval, constSlot, upd_at, Nat.reduceEqDiff, if_true, if_false, popBin, binK, intK, strK, eqK, eq_self, true_and, and_true, e0_1, e0_5, e0_20, e0_21, e0_22, dealPV]
      refine hM _ _ ?_
      clear hM M
      refine pops_mv (.inl rfl) rfl (by simp only [St.eval, upd_at, Nat.reduceEqDiff, if_true, if_false, e0_1, e0_5, e0_20, e0_21, e0_22, dealPV] <;> rfl) ?_
      refine pops_done (hR47 _ ?_)
      clear hR47 R47
      try simp only [thenK, scopeK]
      exact ⟨_, by omega, _, .refl _ _, i + 1, rfl, by omega, s4, by simp only [upd_at, Nat.reduceEqDiff, if_true, if_false, e0_1, e0_5, e0_20, e0_21, e0_22, dealPV], by simp only [upd_at, Nat.reduceEqDiff, if_true, if_false, e0_5]; refine congrArg (fun l : List UInt8 => Slot.sv (SV.one (pstr l))) ?_; rw [actT_step hx, actL, hw]; simp [lineW_cons, lineW1, REFUSED, EQUAL, CONFLICT], by simp only [upd_at, Nat.reduceEqDiff, if_true, if_false, e0_1, e0_5, e0_20, e0_21, e0_22, dealPV], by simp only [upd_at, Nat.reduceEqDiff, if_true, if_false, e0_1, e0_5, e0_20, e0_21, e0_22, dealPV], by simp only [upd_at, Nat.reduceEqDiff, if_true, if_false, e0_22]; rw [wrap_succ (by omega)]⟩
   ·skip
    obtain rfl : i = d.acts.length := by have := of_decide_eq_false c23; omega
    refine pwp_exit ?_
    try simp only [thenK, blockK, scopeK, if_true, Nat.reduceEqDiff, if_false]
    clear hN17 N17
    try simp only [blockK, scopeK, if_true, Nat.reduceEqDiff, if_false, thenK]
    try simp only [thenK, scopeK]
    refine hN12 _ ?_
    clear hN12 N12
    refine pwp_then fun N48 hN48 => ?_
    refine pwp_then fun N49 hN49 => ?_
    refine pwp_reg fun R50 hR50 => ?_
    refine pops_to rfl fun M hM => ?_
    simp only [pop, St.eval, constSlot, upd_at, Nat.reduceEqDiff, if_true, if_false, popFieldAddr, fieldOf, List.drop_succ_cons, List.drop_zero, List.getElem?_toArray, List.getElem?_cons_zero, List.getElem?_cons_succ, Tryd.underlying26, sz23, e0_1, e0_5, e0_20, e0_21, e0_22, dealPV]
    refine ⟨⟨_, rfl⟩, hM _ _ ?_⟩
    clear hM M
    refine pops_to rfl fun M hM => ?_
    simp only [pop, St.eval, constSlot, upd_at, Nat.reduceEqDiff, if_true, if_false, popLoad, loadK, isAggD, List.drop_zero, List.getElem?_toArray, List.getElem?_cons_zero, List.getElem?_cons_succ, Bool.false_eq_true, Tryd.underlying23, sz23, eq_self, true_and, and_true, e0_1, e0_5, e0_20, e0_21, e0_22, dealPV]
    refine hM _ _ ?_
    clear hM M
    refine pops_to rfl fun M hM => ?_
    simp only [pop, St.eval, constSlot, upd_at, Nat.reduceEqDiff, if_true, if_false, popCall, List.toList_toArray, List.map_cons, List.map_nil, popBuiltin, popLen, lenOfSlot, List.length_map, Tryd.underlying23, eq_self, true_and, and_true, str_list, str_size, str_app, str_cut, str_get, e0_1, e0_5, e0_20, e0_21, e0_22, dealPV, List.length_map]
    refine hM _ _ ?_
    clear hM M
    refine pops_mv (.inl rfl) rfl (by simp only [St.eval, constSlot] <;> rfl) ?_
    refine pops_done (hR50 _ ?_)
    clear hR50 R50
    try simp only [thenK, scopeK]
    refine hN49 _ ?_
    clear hN49 N49
    refine pwp_block ?_
    refine pwp_loop (fun k σ => ∃ (i : Nat), (k = d.refs.length - i) ∧ (i ≤ d.refs.length) ∧ (Same h σ.hp) ∧ (σ.env 1 = .sv (.one (.rop (dealPV d)))) ∧ (σ.env 5 = .sv (.one (pstr (refT d i)))) ∧ (σ.env 74 = .sv (.one (.ro false 2 (d.refs.map refPV)))) ∧ (σ.env 75 = .sv (.one (pint (d.refs.length : Nat)))) ∧ (σ.env 76 = .sv (.one (pint (i : Nat))))) _ ⟨_, .refl _ _, 0, rfl, ?_⟩ ?_
    · exact ⟨Nat.zero_le _, sl0, by simp only [upd_at, Nat.reduceEqDiff, if_true, if_false, e0_1, e0_5, e0_20, e0_21, e0_22, dealPV], by simp only [upd_at, Nat.reduceEqDiff, if_true, if_false, e0_5]; rw [refT_zero], by simp only [upd_at, Nat.reduceEqDiff, if_true, if_false, e0_1, e0_5, e0_20, e0_21, e0_22, dealPV], by simp only [upd_at, Nat.reduceEqDiff, if_true, if_false, e0_1, e0_5, e0_20, e0_21, e0_22, dealPV], by simp only [upd_at, Nat.reduceEqDiff, if_true, if_false] <;> rfl⟩
    ·rintro k ⟨e, hp1⟩ ⟨i, hk1, hx1_0, sl1, e1_1, e1_5, e1_74, e1_75, e1_76⟩
     simp only at sl1 e1_1 e1_5 e1_74 e1_75 e1_76
     refine pwp_then fun N51 hN51 => ?_
     refine pwp_reg fun R52 hR52 => ?_
     refine pops_to rfl fun M hM => ?_
     simp only [pop, St.eval, constSlot, upd_at, Nat.reduceEqDiff, if_true, if_false, popBin, binK, intK, strK, eqK, eq_self, true_and, and_true, e1_1, e1_5, e1_74, e1_75, e1_76, dealPV]
     refine hM _ _ ?_
     clear hM M
     refine pops_done (hR52 _ ?_)
     clear hR52 R52
     try simp only [thenK, scopeK]
     refine hN51 _ ?_
     clear hN51 N51
     refine pwp_then fun N53 hN53 => ?_
     refine pwp_cond (by simp only [St.eval, upd_at, Nat.reduceEqDiff, if_true, if_false, e1_1, e1_5, e1_74, e1_75, e1_76, dealPV] <;> rfl) (fun c77 => ?_) (fun c77 => ?_)
     ·skip
      have hi : i < d.refs.length := by have := of_decide_eq_true c77; omega
      obtain ⟨x, hx⟩ : ∃ x, d.refs[i]? = some x := ⟨_, List.getElem?_eq_getElem hi⟩
      have hget : (d.refs.map refPV)[i]? = some [pstr x.1, pint x.2] := by simp only [List.getElem?_map, hx, Option.map_some]
      have hxm := List.mem_of_getElem? hx
      have k3 := a6 x hxm
      have xi1 := hI.2 x hxm
      have hq1 := quote_1024 k3
      have hi1 := itoa_21 xi1
      have hT := (deal_len h0 hI i).2.1
      have hL := refL_len k3 xi1
      refine pwp_skip ?_
      try simp only [thenK, scopeK]
      refine hN53 _ ?_
      clear hN53 N53
      refine pwp_then fun N54 hN54 => ?_
      refine pwp_block ?_
      refine pwp_then fun N55 hN55 => ?_
      refine pwp_reg fun R56 hR56 => ?_
      refine pops_to rfl fun M hM => ?_
      simp only [pop, St.eval, constSlot, upd_at, Nat.reduceEqDiff, if_true, if_false, popIndexAddr, Tryd.underlying23, sz38, eq_self, true_and, and_true, str_list, str_size, str_app, str_cut, str_get, e1_1, e1_5, e1_74, e1_75, e1_76, dealPV, hget, Int.toNat_natCast]
      refine ⟨Int.natCast_nonneg _, hM _ _ ?_⟩
      clear hM M
      refine pops_to rfl fun M hM => ?_
      simp only [pop, St.eval, constSlot, upd_at, Nat.reduceEqDiff, if_true, if_false, List.length_cons, List.length_nil, Nat.zero_add, Nat.reduceAdd, Nat.reduceLeDiff, List.take_zero, List.take_succ_cons, List.take_nil, List.drop_succ_cons, List.drop_zero, List.drop_nil, List.nil_append, List.cons_append, List.append_nil, and_self, List.getElem?_cons_zero, List.getElem?_cons_succ, List.set_cons_zero, List.set_cons_succ, Option.some.injEq, popLoad, loadK, isAggD, List.drop_zero, List.getElem?_toArray, List.getElem?_cons_zero, List.getElem?_cons_succ, Bool.false_eq_true, Tryd.underlying38, sz38, eq_self, true_and, and_true, e1_1, e1_5, e1_74, e1_75, e1_76, dealPV]
      refine hM _ _ ?_
      clear hM M
      refine pops_var (hpOk.same hb sl1) rfl ze38 (zs := [PV.val (.string ⟨#[]⟩), PV.val (.int .i64 0)]) (by kernel_rfl) (by simp) (by simp only [St.eval, constSlot, slotCells, upd_at, Nat.reduceEqDiff, if_true, if_false, e1_1, e1_5, e1_74, e1_75, e1_76, dealPV] <;> rfl) (by rfl) (by exact Nat.succ_pos _) (by rw [sz38]; rfl) (fun hv57 sv57 => ?_)
      replace sv57 := Same.trans sl1 sv57
      refine pops_done (hR56 _ ?_)
      clear hR56 R56
      try simp only [thenK, scopeK]
      refine hN55 _ ?_
      clear hN55 N55
      refine pwp_dreg 13 mixed (by decide +kernel) fun R58 hR58 => ?_
      simp only [List.take_succ_cons, List.take_zero, List.drop_succ_cons, List.drop_zero]
      apply lex_to
      · rfl
      ·intro h' s' M hM
       simp only [pop, St.eval, constSlot, upd_at, Nat.reduceEqDiff, if_true, if_false, eq_self, true_and, and_true, str_list, str_size, str_app, str_cut, str_get, e1_1, e1_5, e1_74, e1_75, e1_76, dealPV, s'.1]
       exact hM _ (.refl _)
      apply lex_to
      · rfl
      ·intro h' s' M hM
       simp only [pop, St.eval, constSlot, upd_at, Nat.reduceEqDiff, if_true, if_false, popFieldAddr, fieldOf, List.drop_succ_cons, List.drop_zero, List.getElem?_toArray, List.getElem?_cons_zero, List.getElem?_cons_succ, Tryd.underlying38, sz28, e1_1, e1_5, e1_74, e1_75, e1_76, dealPV, s'.1]
       exact ⟨⟨_, rfl⟩, hM _ (.refl _)⟩
      apply lex_to
      · rfl
      ·intro h' s' M hM
       simp only [pop, St.eval, constSlot, upd_at, Nat.reduceEqDiff, if_true, if_false, popLoad, loadK, isAggD, List.drop_zero, List.getElem?_toArray, List.getElem?_cons_zero, List.getElem?_cons_succ, Bool.false_eq_true, Tryd.underlying28, sz28, eq_self, true_and, and_true, e1_1, e1_5, e1_74, e1_75, e1_76, dealPV, s'.1]
       exact hM _ (.refl _)
      apply lex_to
      · rfl
      ·intro h' s' M hM
       simp only [pop, St.eval, constSlot, upd_at, Nat.reduceEqDiff, if_true, if_false, popCall, List.toList_toArray, List.map_cons, List.map_nil, svs, List.mapM_cons, List.mapM_nil, Option.bind_eq_bind, Option.bind_some, Option.pure_def, List.append_nil, List.cons_append, List.nil_append, str_size, e1_1, e1_5, e1_74, e1_75, e1_76, dealPV, s'.1]
       refine PFun.use (itoa_fun W0 hp x.2 xi1) fun hp s => hM _ s
      apply lex_to
      · rfl
      ·intro h' s' M hM
       simp only [pop, St.eval, constSlot, upd_at, Nat.reduceEqDiff, if_true, if_false, popBin, binK, intK, strK, eqK, eq_self, true_and, and_true, str_list, str_size, str_app, str_cut, str_get, e1_1, e1_5, e1_74, e1_75, e1_76, dealPV, s'.1]
       refine ⟨by simp only [List.length_append, List.length_cons, List.length_nil]; omega, ?_⟩
       exact hM _ (.refl _)
      apply lex_to
      · rfl
      ·intro h' s' M hM
       simp only [pop, St.eval, constSlot, upd_at, Nat.reduceEqDiff, if_true, if_false, popBin, binK, intK, strK, eqK, eq_self, true_and, and_true, str_list, str_size, str_app, str_cut, str_get, e1_1, e1_5, e1_74, e1_75, e1_76, dealPV, s'.1]
       refine ⟨by simp only [List.length_append, List.length_cons, List.length_nil]; omega, ?_⟩
       exact hM _ (.refl _)
      apply lex_to
      · rfl
      ·intro h' s' M hM
       simp only [pop, St.eval, constSlot, upd_at, Nat.reduceEqDiff, if_true, if_false, popFieldAddr, fieldOf, List.drop_succ_cons, List.drop_zero, List.getElem?_toArray, List.getElem?_cons_zero, List.getElem?_cons_succ, Tryd.underlying38, sz9, e1_1, e1_5, e1_74, e1_75, e1_76, dealPV, s'.1]
       exact ⟨⟨_, rfl⟩, hM _ (.refl _)⟩
      apply lex_to
      · rfl
      ·intro h' s' M hM
       simp only [pop, St.eval, constSlot, upd_at, Nat.reduceEqDiff, if_true, if_false, popLoad, loadK, isAggD, List.drop_zero, List.getElem?_toArray, List.getElem?_cons_zero, List.getElem?_cons_succ, Bool.false_eq_true, Tryd.underlying9, sz9, eq_self, true_and, and_true, e1_1, e1_5, e1_74, e1_75, e1_76, dealPV, s'.1]
       exact hM _ (.refl _)
      apply lex_to
      · rfl
      ·intro h' s' M hM
       simp only [pop, St.eval, constSlot, upd_at, Nat.reduceEqDiff, if_true, if_false, popCall, List.toList_toArray, List.map_cons, List.map_nil, svs, List.mapM_cons, List.mapM_nil, Option.bind_eq_bind, Option.bind_some, Option.pure_def, List.append_nil, List.cons_append, List.nil_append, str_size, e1_1, e1_5, e1_74, e1_75, e1_76, dealPV, s'.1]
       refine PFun.use (quotePath_fun W0 x.1 (by omega)) fun hp s => hM _ s
      apply lex_to
      · rfl
      ·intro h' s' M hM
       simp only [pop, St.eval, constSlot, upd_at, Nat.reduceEqDiff, if_true, if_false, popBin, binK, intK, strK, eqK, eq_self, true_and, and_true, str_list, str_size, str_app, str_cut, str_get, e1_1, e1_5, e1_74, e1_75, e1_76, dealPV, s'.1]
       refine ⟨by simp only [List.length_append, List.length_cons, List.length_nil]; omega, ?_⟩
       exact hM _ (.refl _)
      apply lex_to
      · rfl
      ·intro h' s' M hM
       simp only [pop, St.eval, constSlot, upd_at, Nat.reduceEqDiff, if_true, if_false, popBin, binK, intK, strK, eqK, eq_self, true_and, and_true, str_list, str_size, str_app, str_cut, str_get, e1_1, e1_5, e1_74, e1_75, e1_76, dealPV, s'.1]
       refine ⟨by simp only [List.length_append, List.length_cons, List.length_nil]; omega, ?_⟩
       exact hM _ (.refl _)
      apply lex_to
      · rfl
      ·intro h' s' M hM
       simp only [pop, St.eval, constSlot, upd_at, Nat.reduceEqDiff, if_true, if_false, popBin, binK, intK, strK, eqK, eq_self, true_and, and_true, str_list, str_size, str_app, str_cut, str_get, e1_1, e1_5, e1_74, e1_75, e1_76, dealPV, s'.1]
       refine ⟨by simp only [List.length_append, List.length_cons, List.length_nil]; omega, ?_⟩
       exact hM _ (.refl _)
      apply lex_to
      · rfl
      ·intro h' s' M hM
       simp only [pop, St.eval, constSlot, upd_at, Nat.reduceEqDiff, if_true, if_false, eq_self, true_and, and_true, str_list, str_size, str_app, str_cut, str_get, e1_1, e1_5, e1_74, e1_75, e1_76, dealPV, s'.1]
       exact hM _ (.refl _)
      refine lex_done fun hq3 sq3 => ?_
      replace sq3 := Same.trans sv57 sq3
      refine pops_done (hR58 _ ?_)
      clear hR58 R58
      try simp only [blockK, thenK, scopeK]
      try simp only [thenK, scopeK]
      refine hN54 _ ?_
      clear hN54 N54
      refine pwp_reg fun R59 hR59 => ?_
      refine pops_to rfl fun M hM => ?_
      simp only [pop, St.eval, constSlot, upd_at, Nat.reduceEqDiff, if_true, if_false, popBin, binK, intK, strK, eqK, eq_self, true_and, and_true, e1_1, e1_5, e1_74, e1_75, e1_76, dealPV]
      refine hM _ _ ?_
      clear hM M
      refine pops_mv (.inl rfl) rfl (by simp only [St.eval, upd_at, Nat.reduceEqDiff, if_true, if_false, e1_1, e1_5, e1_74, e1_75, e1_76, dealPV] <;> rfl) ?_
      refine pops_done (hR59 _ ?_)
      clear hR59 R59
      try simp only [thenK, scopeK]
      exact ⟨_, by omega, _, .refl _ _, i + 1, rfl, by omega, sq3, by simp only [upd_at, Nat.reduceEqDiff, if_true, if_false, e1_1, e1_5, e1_74, e1_75, e1_76, dealPV], by simp only [upd_at, Nat.reduceEqDiff, if_true, if_false, e1_5]; refine congrArg (fun l : List UInt8 => Slot.sv (SV.one (pstr l))) ?_; rw [refT_step hx, refL]; simp [lineW_cons, lineW1, REFUSED, EQUAL, CONFLICT], by simp only [upd_at, Nat.reduceEqDiff, if_true, if_false, e1_1, e1_5, e1_74, e1_75, e1_76, dealPV], by simp only [upd_at, Nat.reduceEqDiff, if_true, if_false, e1_1, e1_5, e1_74, e1_75, e1_76, dealPV], by simp only [upd_at, Nat.reduceEqDiff, if_true, if_false, e1_76]; rw [wrap_succ (by omega)]⟩
     ·skip
      obtain rfl : i = d.refs.length := by have := of_decide_eq_false c77; omega
      refine pwp_exit ?_
      try simp only [thenK, blockK, scopeK, if_true, Nat.reduceEqDiff, if_false]
      clear hN53 N53
      try simp only [blockK, scopeK, if_true, Nat.reduceEqDiff, if_false, thenK]
      try simp only [thenK, scopeK]
      refine hN48 _ ?_
      clear hN48 N48
      refine pwp_then fun N60 hN60 => ?_
      refine pwp_then fun N61 hN61 => ?_
      refine pwp_reg fun R62 hR62 => ?_
      refine pops_to rfl fun M hM => ?_
      simp only [pop, St.eval, constSlot, upd_at, Nat.reduceEqDiff, if_true, if_false, popFieldAddr, fieldOf, List.drop_succ_cons, List.drop_zero, List.getElem?_toArray, List.getElem?_cons_zero, List.getElem?_cons_succ, Tryd.underlying26, sz24, e1_1, e1_5, e1_74, e1_75, e1_76, dealPV]
      refine ⟨⟨_, rfl⟩, hM _ _ ?_⟩
      clear hM M
      refine pops_to rfl fun M hM => ?_
      simp only [pop, St.eval, constSlot, upd_at, Nat.reduceEqDiff, if_true, if_false, popLoad, loadK, isAggD, List.drop_zero, List.getElem?_toArray, List.getElem?_cons_zero, List.getElem?_cons_succ, Bool.false_eq_true, Tryd.underlying24, sz24, eq_self, true_and, and_true, e1_1, e1_5, e1_74, e1_75, e1_76, dealPV]
      refine hM _ _ ?_
      clear hM M
      refine pops_to rfl fun M hM => ?_
      simp only [pop, St.eval, constSlot, upd_at, Nat.reduceEqDiff, if_true, if_false, popCall, List.toList_toArray, List.map_cons, List.map_nil, popBuiltin, popLen, lenOfSlot, List.length_map, Tryd.underlying24, eq_self, true_and, and_true, str_list, str_size, str_app, str_cut, str_get, e1_1, e1_5, e1_74, e1_75, e1_76, dealPV, pstrs_len]
      refine hM _ _ ?_
      clear hM M
      refine pops_mv (.inl rfl) rfl (by simp only [St.eval, constSlot] <;> rfl) ?_
      refine pops_done (hR62 _ ?_)
      clear hR62 R62
      try simp only [thenK, scopeK]
      refine hN61 _ ?_
      clear hN61 N61
      refine pwp_block ?_
      refine pwp_loop (fun k σ => ∃ (i : Nat), (k = d.eqs.length - i) ∧ (i ≤ d.eqs.length) ∧ (Same h σ.hp) ∧ (σ.env 1 = .sv (.one (.rop (dealPV d)))) ∧ (σ.env 5 = .sv (.one (pstr (eqT d i)))) ∧ (σ.env 94 = .sv (.one (.ro false 1 (pstrs d.eqs)))) ∧ (σ.env 95 = .sv (.one (pint (d.eqs.length : Nat)))) ∧ (σ.env 96 = .sv (.one (pint (i : Nat))))) _ ⟨_, .refl _ _, 0, rfl, ?_⟩ ?_
      · exact ⟨Nat.zero_le _, sl1, by simp only [upd_at, Nat.reduceEqDiff, if_true, if_false, e1_1, e1_5, e1_74, e1_75, e1_76, dealPV], by simp only [upd_at, Nat.reduceEqDiff, if_true, if_false, e1_5]; rw [eqT_zero], by simp only [upd_at, Nat.reduceEqDiff, if_true, if_false, e1_1, e1_5, e1_74, e1_75, e1_76, dealPV], by simp only [upd_at, Nat.reduceEqDiff, if_true, if_false, e1_1, e1_5, e1_74, e1_75, e1_76, dealPV], by simp only [upd_at, Nat.reduceEqDiff, if_true, if_false] <;> rfl⟩
      ·rintro k ⟨e, hp2⟩ ⟨i, hk2, hx2_0, sl2, e2_1, e2_5, e2_94, e2_95, e2_96⟩
       simp only at sl2 e2_1 e2_5 e2_94 e2_95 e2_96
       refine pwp_then fun N63 hN63 => ?_
       refine pwp_reg fun R64 hR64 => ?_
       refine pops_to rfl fun M hM => ?_
       simp only [pop, St.eval, constSlot, upd_at, Nat.reduceEqDiff, if_true, if_false, popBin, binK, intK, strK, eqK, eq_self, true_and, and_true, e2_1, e2_5, e2_94, e2_95, e2_96, dealPV]
       refine hM _ _ ?_
       clear hM M
       refine pops_done (hR64 _ ?_)
       clear hR64 R64
       try simp only [thenK, scopeK]
       refine hN63 _ ?_
       clear hN63 N63
       refine pwp_then fun N65 hN65 => ?_
       refine pwp_cond (by simp only [St.eval, upd_at, Nat.reduceEqDiff, if_true, if_false, e2_1, e2_5, e2_94, e2_95, e2_96, dealPV] <;> rfl) (fun c97 => ?_) (fun c97 => ?_)
       ·skip
        have hi : i < (d.eqs).length := by have := of_decide_eq_true c97; omega
        obtain ⟨x, hx⟩ : ∃ x, (d.eqs)[i]? = some x := ⟨_, List.getElem?_eq_getElem hi⟩
        have hget : (pstrs (d.eqs))[i]? = some [pstr x] := by simp only [List.getElem?_map, hx, Option.map_some]
        have hxm := List.mem_of_getElem? hx
        have k3 := a7 x hxm
        have hq1 := quote_1024 k3
        have hT := (deal_len h0 hI i).2.2.1
        have hL := eqL_len k3
        refine pwp_skip ?_
        try simp only [thenK, scopeK]
        refine hN65 _ ?_
        clear hN65 N65
        refine pwp_then fun N66 hN66 => ?_
        refine pwp_block ?_
        refine pwp_then fun N67 hN67 => ?_
        refine pwp_reg fun R68 hR68 => ?_
        refine pops_to rfl fun M hM => ?_
        simp only [pop, St.eval, constSlot, upd_at, Nat.reduceEqDiff, if_true, if_false, popIndexAddr, Tryd.underlying24, sz9, eq_self, true_and, and_true, str_list, str_size, str_app, str_cut, str_get, e2_1, e2_5, e2_94, e2_95, e2_96, dealPV, hget, Int.toNat_natCast]
        refine ⟨Int.natCast_nonneg _, hM _ _ ?_⟩
        clear hM M
        refine pops_to rfl fun M hM => ?_
        simp only [pop, St.eval, constSlot, upd_at, Nat.reduceEqDiff, if_true, if_false, popLoad, loadK, isAggD, List.drop_zero, List.getElem?_toArray, List.getElem?_cons_zero, List.getElem?_cons_succ, Bool.false_eq_true, Tryd.underlying9, sz9, eq_self, true_and, and_true, e2_1, e2_5, e2_94, e2_95, e2_96, dealPV]
        refine hM _ _ ?_
        clear hM M
        refine pops_mv (.inr rfl) rfl (by simp only [St.eval, upd_at, Nat.reduceEqDiff, if_true, if_false, e2_1, e2_5, e2_94, e2_95, e2_96, dealPV] <;> rfl) ?_
        refine pops_done (hR68 _ ?_)
        clear hR68 R68
        try simp only [thenK, scopeK]
        refine hN67 _ ?_
        clear hN67 N67
        refine pwp_reg fun R69 hR69 => ?_
        refine pops_mv (.inl rfl) rfl (by simp only [St.eval, upd_at, Nat.reduceEqDiff, if_true, if_false, e2_1, e2_5, e2_94, e2_95, e2_96, dealPV] <;> rfl) ?_
        refine pops_mv (.inl rfl) rfl (by simp only [St.eval, upd_at, Nat.reduceEqDiff, if_true, if_false, e2_1, e2_5, e2_94, e2_95, e2_96, dealPV] <;> rfl) ?_
        refine pops_to rfl fun M hM => ?_
        simp only [pop, St.eval, constSlot, upd_at, Nat.reduceEqDiff, if_true, if_false, popCall, List.toList_toArray, List.map_cons, List.map_nil, svs, List.mapM_cons, List.mapM_nil, Option.bind_eq_bind, Option.bind_some, Option.pure_def, List.append_nil, List.cons_append, List.nil_append, str_size, e2_1, e2_5, e2_94, e2_95, e2_96, dealPV]
        refine PFun.use (quotePath_fun W0 x (by omega)) fun h6 s6 => hM _ _ ?_
        replace s6 := Same.trans sl2 s6
        clear hM M
        refine pops_to rfl fun M hM => ?_
        simp only [pop, St.eval, constSlot, upd_at, Nat.reduceEqDiff, if_true, if_false, popBin, binK, intK, strK, eqK, eq_self, true_and, and_true, str_list, str_size, str_app, str_cut, str_get, e2_1, e2_5, e2_94, e2_95, e2_96, dealPV]
        refine ⟨by simp only [List.length_append, List.length_cons, List.length_nil]; omega, hM _ _ ?_⟩
        clear hM M
        refine pops_to rfl fun M hM => ?_
        simp only [pop, St.eval, constSlot, upd_at, Nat.reduceEqDiff, if_true, if_false, popBin, binK, intK, strK, eqK, eq_self, true_and, and_true, str_list, str_size, str_app, str_cut, str_get, e2_1, e2_5, e2_94, e2_95, e2_96, dealPV]
        refine ⟨by simp only [List.length_append, List.length_cons, List.length_nil]; omega, hM _ _ ?_⟩
        clear hM M
        refine pops_to rfl fun M hM => ?_
        simp only [pop, St.eval, constSlot, upd_at, Nat.reduceEqDiff, if_true, if_false, popBin, binK, intK, strK, eqK, eq_self, true_and, and_true, str_list, str_size, str_app, str_cut, str_get, e2_1, e2_5, e2_94, e2_95, e2_96, dealPV]
        refine ⟨by simp only [List.length_append, List.length_cons, List.length_nil]; omega, hM _ _ ?_⟩
        clear hM M
        refine pops_mv (.inr rfl) rfl (by simp only [St.eval, upd_at, Nat.reduceEqDiff, if_true, if_false, e2_1, e2_5, e2_94, e2_95, e2_96, dealPV] <;> rfl) ?_
        refine pops_done (hR69 _ ?_)
        clear hR69 R69
        try simp only [blockK, thenK, scopeK]
        try simp only [thenK, scopeK]
        refine hN66 _ ?_
        clear hN66 N66
        refine pwp_reg fun R70 hR70 => ?_
        refine pops_to rfl fun M hM => ?_
        simp only [pop, St.eval, constSlot, upd_at, Nat.reduceEqDiff, if_true, if_false, popBin, binK, intK, strK, eqK, eq_self, true_and, and_true, e2_1, e2_5, e2_94, e2_95, e2_96, dealPV]
        refine hM _ _ ?_
        clear hM M
        refine pops_mv (.inl rfl) rfl (by simp only [St.eval, upd_at, Nat.reduceEqDiff, if_true, if_false, e2_1, e2_5, e2_94, e2_95, e2_96, dealPV] <;> rfl) ?_
        refine pops_done (hR70 _ ?_)
        clear hR70 R70
        try simp only [thenK, scopeK]
        exact ⟨_, by omega, _, .refl _ _, i + 1, rfl, by omega, s6, by simp only [upd_at, Nat.reduceEqDiff, if_true, if_false, e2_1, e2_5, e2_94, e2_95, e2_96, dealPV], by simp only [upd_at, Nat.reduceEqDiff, if_true, if_false, e2_5]; refine congrArg (fun l : List UInt8 => Slot.sv (SV.one (pstr l))) ?_; rw [eqT_step hx, eqL]; simp [lineW_cons, lineW1, REFUSED, EQUAL, CONFLICT], by simp only [upd_at, Nat.reduceEqDiff, if_true, if_false, e2_1, e2_5, e2_94, e2_95, e2_96, dealPV], by simp only [upd_at, Nat.reduceEqDiff, if_true, if_false, e2_1, e2_5, e2_94, e2_95, e2_96, dealPV], by simp only [upd_at, Nat.reduceEqDiff, if_true, if_false, e2_96]; rw [wrap_succ (by omega)]⟩
       ·skip
        obtain rfl : i = d.eqs.length := by have := of_decide_eq_false c97; omega
        refine pwp_exit ?_
        try simp only [thenK, blockK, scopeK, if_true, Nat.reduceEqDiff, if_false]
        clear hN65 N65
        try simp only [blockK, scopeK, if_true, Nat.reduceEqDiff, if_false, thenK]
        try simp only [thenK, scopeK]
        refine hN60 _ ?_
        clear hN60 N60
        refine pwp_then fun N71 hN71 => ?_
        refine pwp_then fun N72 hN72 => ?_
        refine pwp_reg fun R73 hR73 => ?_
        refine pops_to rfl fun M hM => ?_
        simp only [pop, St.eval, constSlot, upd_at, Nat.reduceEqDiff, if_true, if_false, popFieldAddr, fieldOf, List.drop_succ_cons, List.drop_zero, List.getElem?_toArray, List.getElem?_cons_zero, List.getElem?_cons_succ, Tryd.underlying26, sz24, e2_1, e2_5, e2_94, e2_95, e2_96, dealPV]
        refine ⟨⟨_, rfl⟩, hM _ _ ?_⟩
        clear hM M
        refine pops_to rfl fun M hM => ?_
        simp only [pop, St.eval, constSlot, upd_at, Nat.reduceEqDiff, if_true, if_false, popLoad, loadK, isAggD, List.drop_zero, List.getElem?_toArray, List.getElem?_cons_zero, List.getElem?_cons_succ, Bool.false_eq_true, Tryd.underlying24, sz24, eq_self, true_and, and_true, e2_1, e2_5, e2_94, e2_95, e2_96, dealPV]
        refine hM _ _ ?_
        clear hM M
        refine pops_to rfl fun M hM => ?_
        simp only [pop, St.eval, constSlot, upd_at, Nat.reduceEqDiff, if_true, if_false, popCall, List.toList_toArray, List.map_cons, List.map_nil, popBuiltin, popLen, lenOfSlot, List.length_map, Tryd.underlying24, eq_self, true_and, and_true, str_list, str_size, str_app, str_cut, str_get, e2_1, e2_5, e2_94, e2_95, e2_96, dealPV, pstrs_len]
        refine hM _ _ ?_
        clear hM M
        refine pops_mv (.inl rfl) rfl (by simp only [St.eval, constSlot] <;> rfl) ?_
        refine pops_done (hR73 _ ?_)
        clear hR73 R73
        try simp only [thenK, scopeK]
        refine hN72 _ ?_
        clear hN72 N72
        refine pwp_block ?_
        refine pwp_loop (fun k σ => ∃ (i : Nat), (k = d.cons.length - i) ∧ (i ≤ d.cons.length) ∧ (Same h σ.hp) ∧ (σ.env 1 = .sv (.one (.rop (dealPV d)))) ∧ (σ.env 5 = .sv (.one (pstr (conT d i)))) ∧ (σ.env 108 = .sv (.one (.ro false 1 (pstrs d.cons)))) ∧ (σ.env 109 = .sv (.one (pint (d.cons.length : Nat)))) ∧ (σ.env 110 = .sv (.one (pint (i : Nat))))) _ ⟨_, .refl _ _, 0, rfl, ?_⟩ ?_
        · exact ⟨Nat.zero_le _, sl2, by simp only [upd_at, Nat.reduceEqDiff, if_true, if_false, e2_1, e2_5, e2_94, e2_95, e2_96, dealPV], by simp only [upd_at, Nat.reduceEqDiff, if_true, if_false, e2_5]; rw [conT_zero], by simp only [upd_at, Nat.reduceEqDiff, if_true, if_false, e2_1, e2_5, e2_94, e2_95, e2_96, dealPV], by simp only [upd_at, Nat.reduceEqDiff, if_true, if_false, e2_1, e2_5, e2_94, e2_95, e2_96, dealPV], by simp only [upd_at, Nat.reduceEqDiff, if_true, if_false] <;> rfl⟩
        ·rintro k ⟨e, hp3⟩ ⟨i, hk3, hx3_0, sl3, e3_1, e3_5, e3_108, e3_109, e3_110⟩
         simp only at sl3 e3_1 e3_5 e3_108 e3_109 e3_110
         refine pwp_then fun N74 hN74 => ?_
         refine pwp_reg fun R75 hR75 => ?_
         refine pops_to rfl fun M hM => ?_
         simp only [pop, St.eval, constSlot, upd_at, Nat.reduceEqDiff, if_true, if_false, popBin, binK, intK, strK, eqK, eq_self, true_and, and_true, e3_1, e3_5, e3_108, e3_109, e3_110, dealPV]
         refine hM _ _ ?_
         clear hM M
         refine pops_done (hR75 _ ?_)
         clear hR75 R75
         try simp only [thenK, scopeK]
         refine hN74 _ ?_
         clear hN74 N74
         refine pwp_then fun N76 hN76 => ?_
         refine pwp_cond (by simp only [St.eval, upd_at, Nat.reduceEqDiff, if_true, if_false, e3_1, e3_5, e3_108, e3_109, e3_110, dealPV] <;> rfl) (fun c111 => ?_) (fun c111 => ?_)
         ·skip
          have hi : i < (d.cons).length := by have := of_decide_eq_true c111; omega
          obtain ⟨x, hx⟩ : ∃ x, (d.cons)[i]? = some x := ⟨_, List.getElem?_eq_getElem hi⟩
          have hget : (pstrs (d.cons))[i]? = some [pstr x] := by simp only [List.getElem?_map, hx, Option.map_some]
          have hxm := List.mem_of_getElem? hx
          have k3 := a8 x hxm
          have hq1 := quote_1024 k3
          have hT := (deal_len h0 hI i).2.2.2
          have hL := conL_len k3
          refine pwp_skip ?_
          try simp only [thenK, scopeK]
          refine hN76 _ ?_
          clear hN76 N76
          refine pwp_then fun N77 hN77 => ?_
          refine pwp_block ?_
          refine pwp_then fun N78 hN78 => ?_
          refine pwp_reg fun R79 hR79 => ?_
          refine pops_to rfl fun M hM => ?_
          simp only [pop, St.eval, constSlot, upd_at, Nat.reduceEqDiff, if_true, if_false, popIndexAddr, Tryd.underlying24, sz9, eq_self, true_and, and_true, str_list, str_size, str_app, str_cut, str_get, e3_1, e3_5, e3_108, e3_109, e3_110, dealPV, hget, Int.toNat_natCast]
          refine ⟨Int.natCast_nonneg _, hM _ _ ?_⟩
          clear hM M
          refine pops_to rfl fun M hM => ?_
          simp only [pop, St.eval, constSlot, upd_at, Nat.reduceEqDiff, if_true, if_false, popLoad, loadK, isAggD, List.drop_zero, List.getElem?_toArray, List.getElem?_cons_zero, List.getElem?_cons_succ, Bool.false_eq_true, Tryd.underlying9, sz9, eq_self, true_and, and_true, e3_1, e3_5, e3_108, e3_109, e3_110, dealPV]
          refine hM _ _ ?_
          clear hM M
          refine pops_mv (.inr rfl) rfl (by simp only [St.eval, upd_at, Nat.reduceEqDiff, if_true, if_false, e3_1, e3_5, e3_108, e3_109, e3_110, dealPV] <;> rfl) ?_
          refine pops_done (hR79 _ ?_)
          clear hR79 R79
          try simp only [thenK, scopeK]
          refine hN78 _ ?_
          clear hN78 N78
          refine pwp_reg fun R80 hR80 => ?_
          refine pops_mv (.inl rfl) rfl (by simp only [St.eval, upd_at, Nat.reduceEqDiff, if_true, if_false, e3_1, e3_5, e3_108, e3_109, e3_110, dealPV] <;> rfl) ?_
          refine pops_mv (.inl rfl) rfl (by simp only [St.eval, upd_at, Nat.reduceEqDiff, if_true, if_false, e3_1, e3_5, e3_108, e3_109, e3_110, dealPV] <;> rfl) ?_
          refine pops_to rfl fun M hM => ?_
          simp only [pop, St.eval, constSlot, upd_at, Nat.reduceEqDiff, if_true, if_false, popCall, List.toList_toArray, List.map_cons, List.map_nil, svs, List.mapM_cons, List.mapM_nil, Option.bind_eq_bind, Option.bind_some, Option.pure_def, List.append_nil, List.cons_append, List.nil_append, str_size, e3_1, e3_5, e3_108, e3_109, e3_110, dealPV]
          refine PFun.use (quotePath_fun W0 x (by omega)) fun h7 s7 => hM _ _ ?_
          replace s7 := Same.trans sl3 s7
          clear hM M
          refine pops_to rfl fun M hM => ?_
          simp only [pop, St.eval, constSlot, upd_at, Nat.reduceEqDiff, if_true, if_false, popBin, binK, intK, strK, eqK, eq_self, true_and, and_true, str_list, str_size, str_app, str_cut, str_get, e3_1, e3_5, e3_108, e3_109, e3_110, dealPV]
          refine ⟨by simp only [List.length_append, List.length_cons, List.length_nil]; omega, hM _ _ ?_⟩
          clear hM M
          refine pops_to rfl fun M hM => ?_
          simp only [pop, St.eval, constSlot, upd_at, Nat.reduceEqDiff, if_true, if_false, popBin, binK, intK, strK, eqK, eq_self, true_and, and_true, str_list, str_size, str_app, str_cut, str_get, e3_1, e3_5, e3_108, e3_109, e3_110, dealPV]
          refine ⟨by simp only [List.length_append, List.length_cons, List.length_nil]; omega, hM _ _ ?_⟩
          clear hM M
          refine pops_to rfl fun M hM => ?_
          simp only [pop, St.eval, constSlot, upd_at, Nat.reduceEqDiff, if_true, if_false, popBin, binK, intK, strK, eqK, eq_self, true_and, and_true, str_list, str_size, str_app, str_cut, str_get, e3_1, e3_5, e3_108, e3_109, e3_110, dealPV]
          refine ⟨by simp only [List.length_append, List.length_cons, List.length_nil]; omega, hM _ _ ?_⟩
          clear hM M
          refine pops_mv (.inr rfl) rfl (by simp only [St.eval, upd_at, Nat.reduceEqDiff, if_true, if_false, e3_1, e3_5, e3_108, e3_109, e3_110, dealPV] <;> rfl) ?_
          refine pops_done (hR80 _ ?_)
          clear hR80 R80
          try simp only [blockK, thenK, scopeK]
          try simp only [thenK, scopeK]
          refine hN77 _ ?_
          clear hN77 N77
          refine pwp_reg fun R81 hR81 => ?_
          refine pops_to rfl fun M hM => ?_
          simp only [pop, St.eval, constSlot, upd_at, Nat.reduceEqDiff, if_true, if_false, popBin, binK, intK, strK, eqK, eq_self, true_and, and_true, e3_1, e3_5, e3_108, e3_109, e3_110, dealPV]
          refine hM _ _ ?_
          clear hM M
          refine pops_mv (.inl rfl) rfl (by simp only [St.eval, upd_at, Nat.reduceEqDiff, if_true, if_false, e3_1, e3_5, e3_108, e3_109, e3_110, dealPV] <;> rfl) ?_
          refine pops_done (hR81 _ ?_)
          clear hR81 R81
          try simp only [thenK, scopeK]
          exact ⟨_, by omega, _, .refl _ _, i + 1, rfl, by omega, s7, by simp only [upd_at, Nat.reduceEqDiff, if_true, if_false, e3_1, e3_5, e3_108, e3_109, e3_110, dealPV], by simp only [upd_at, Nat.reduceEqDiff, if_true, if_false, e3_5]; refine congrArg (fun l : List UInt8 => Slot.sv (SV.one (pstr l))) ?_; rw [conT_step hx, conL]; simp [lineW_cons, lineW1, REFUSED, EQUAL, CONFLICT], by simp only [upd_at, Nat.reduceEqDiff, if_true, if_false, e3_1, e3_5, e3_108, e3_109, e3_110, dealPV], by simp only [upd_at, Nat.reduceEqDiff, if_true, if_false, e3_1, e3_5, e3_108, e3_109, e3_110, dealPV], by simp only [upd_at, Nat.reduceEqDiff, if_true, if_false, e3_110]; rw [wrap_succ (by omega)]⟩
         ·skip
          obtain rfl : i = d.cons.length := by have := of_decide_eq_false c111; omega
          refine pwp_exit ?_
          try simp only [thenK, blockK, scopeK, if_true, Nat.reduceEqDiff, if_false]
          clear hN76 N76
          try simp only [blockK, scopeK, if_true, Nat.reduceEqDiff, if_false, thenK]
          try simp only [thenK, scopeK]
          refine hN71 _ ?_
          clear hN71 N71
          refine pwp_then fun N82 hN82 => ?_
          refine pwp_reg fun R83 hR83 => ?_
          refine pops_mv (.inl rfl) rfl (by simp only [St.eval, upd_at, Nat.reduceEqDiff, if_true, if_false, e3_1, e3_5, e3_108, e3_109, e3_110, dealPV] <;> rfl) ?_
          refine pops_mv (.inr rfl) rfl (by simp only [St.eval, upd_at, Nat.reduceEqDiff, if_true, if_false, e3_1, e3_5, e3_108, e3_109, e3_110, dealPV] <;> rfl) ?_
          refine pops_mv (.inr rfl) rfl (by simp only [St.eval, constSlot] <;> rfl) ?_
          refine pops_done (hR83 _ ?_)
          clear hR83 R83
          try simp only [thenK, scopeK]
          refine hN82 _ ?_
          clear hN82 N82
          refine pwp_ret ?_
          simp only [thenK, blockK, scopeK, bodyK]
          refine ⟨_, rfl, endFun sl3 ?_⟩
          try simp only [upd_at, Nat.reduceEqDiff, if_true, if_false, e3_1, e3_5, e3_108, e3_109, e3_110, dealPV]
          all_goals
           rw [if_pos h0, ← conT_end, h0]
end Go.Pw
