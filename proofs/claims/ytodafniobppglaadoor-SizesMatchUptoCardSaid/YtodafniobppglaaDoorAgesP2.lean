import Derived.Test.YtodafniobppglaaDoorAgesP1
namespace Go.Pw
open Go Go.RowKit Go.Proofs
set_option maxRecDepth 100000
set_option linter.unusedSimpArgs false
set_option linter.unusedVariables false
theorem by3 : bytesOf' Tryd.prog 3 = some 8 := by kernel_rfl
theorem by9 : bytesOf' Tryd.prog 9 = some 16 := by kernel_rfl
theorem ze3 : zeroOf Tryd.prog 3 = some (.int .i64 0) := by kernel_rfl
theorem ze9 : zeroOf Tryd.prog 9 = some (.string ⟨#[]⟩) := by kernel_rfl
theorem nm50 : (Tryd.f50.name == "runtime.NumGoroutine") = false := by kernel_rfl
theorem ages_fun (W0 : World) :
  PFun Tryd.prog W0 50 [] (.tup [.one (.ro true 1 UWR), .one (.ro true 1 USR)]) := by
 intro h
 refine pcalls0 (n := 4) Tryd.func50 rfl nm50 rfl fun hb => ?_
 refine pwp_then fun N1 hN1 => ?_
 refine pwp_reg fun R2 hR2 => ?_
 refine pops_mv (.inr rfl) rfl (by simp only [St.eval, constSlot] <;> rfl) ?_
 refine pops_mv (.inr rfl) rfl (by simp only [St.eval, constSlot] <;> rfl) ?_
 refine pops_done (hR2 _ ?_)
 clear hR2 R2
 try simp only [thenK, scopeK]
 refine hN1 _ ?_
 clear hN1 N1
 refine pwp_then fun N3 hN3 => ?_
 refine pwp_reg fun R4 hR4 => ?_
 refine pops_to rfl fun M hM => ?_
 simp only [pop, St.eval, constSlot, upd_at, Nat.reduceEqDiff, if_true, if_false, popBuildSlice, slotCells, List.toList_toArray, List.map_cons, List.map_nil, List.mapM_cons, List.mapM_nil, Option.bind_eq_bind, Option.bind_some, Option.pure_def, Tryd.underlying32, sz9, ze9, by9, eq_self, true_and, and_true, str_list, str_size, str_app, str_cut, str_get]
 refine ⟨by decide, by decide, rfl, rfl, by simp, by decide, rfl, hM _ _ ?_⟩
 clear hM M
 refine pops_to rfl fun M hM => ?_
 simp only [pop, St.eval, constSlot, upd_at, Nat.reduceEqDiff, if_true, if_false, popBuildSlice, slotCells, List.toList_toArray, List.map_cons, List.map_nil, List.mapM_cons, List.mapM_nil, Option.bind_eq_bind, Option.bind_some, Option.pure_def, Tryd.underlying70, sz3, ze3, by3, eq_self, true_and, and_true, str_list, str_size, str_app, str_cut, str_get]
 refine ⟨by decide, by decide, rfl, rfl, by simp, by decide, rfl, hM _ _ ?_⟩
 clear hM M
 refine pops_mv (.inr rfl) rfl (by simp only [St.eval, upd_at, Nat.reduceEqDiff, if_true, if_false] <;> rfl) ?_
 refine pops_mv (.inr rfl) rfl (by simp only [St.eval, upd_at, Nat.reduceEqDiff, if_true, if_false] <;> rfl) ?_
 refine pops_done (hR4 _ ?_)
 clear hR4 R4
 try simp only [thenK, scopeK]
 refine hN3 _ ?_
 clear hN3 N3
 refine pwp_ret ?_
 simp only [thenK, blockK, scopeK, bodyK]
 refine ⟨_, rfl, endFun (Same.refl _) ?_⟩
 try simp only [upd_at, Nat.reduceEqDiff, if_true, if_false]
 all_goals
  rfl

theorem nm22 : (Tryd.f22.name == "runtime.NumGoroutine") = false := by kernel_rfl
set_option maxHeartbeats 2000000 in
theorem printAgeRef_fun (W0 : World) (hp : HasPow W0) (n : Int) :
  PFun Tryd.prog W0 22 [.one (pint n)] (.tup [.one (pstr (ageS n).1), .one (pint (ageS n).2)]) := by
 intro h
 refine pcalls1 (n := 47) Tryd.func22 rfl nm22 rfl fun hb => ?_
 refine pwp_then fun N1 hN1 => ?_
 refine pwp_reg fun R2 hR2 => ?_
 refine pops_mv (.inr rfl) rfl (by simp only [St.eval, constSlot] <;> rfl) ?_
 refine pops_mv (.inr rfl) rfl (by simp only [St.eval, constSlot] <;> rfl) ?_
 refine pops_done (hR2 _ ?_)
 clear hR2 R2
 try simp only [thenK, scopeK]
 refine hN1 _ ?_
 clear hN1 N1
 refine pwp_then fun N3 hN3 => ?_
 refine pwp_then fun N4 hN4 => ?_
 refine pwp_reg fun R5 hR5 => ?_
 refine pops_mv (.inl rfl) rfl (by simp only [St.eval, upd_at, Nat.reduceEqDiff, if_true, if_false] <;> rfl) ?_
 refine pops_to rfl fun M hM => ?_
 simp only [pop, St.eval, constSlot, upd_at, Nat.reduceEqDiff, if_true, if_false, popBin, binK, intK, strK, eqK, eq_self, true_and, and_true]
 refine hM _ _ ?_
 clear hM M
 refine pops_mv (.inl rfl) rfl (by simp only [St.eval, upd_at, Nat.reduceEqDiff, if_true, if_false] <;> rfl) ?_
 apply pops_or0 3 11 14 [12, 13] (by simp only [upd_at, Nat.reduceEqDiff, if_true, if_false] <;> rfl)
 ·skip
  intro g11_0 J6 hJ6
  simp only [List.take_succ_cons, List.take_zero]
  simp only [anyAt_cons, anyAt_nil] at hJ6
  refine pops_mvg (.inl rfl) rfl rfl (by simp only [upd_at, Nat.reduceEqDiff, if_true, if_false, g11_0]) (by simp only [St.eval, upd_at, Nat.reduceEqDiff, if_true, if_false, g11_0] <;> rfl) ?_
  refine pops_do rfl rfl (by simp only [upd_at, Nat.reduceEqDiff, if_true, if_false, g11_0]) fun M hM => ?_
  simp only [pop, St.eval, constSlot, upd_at, Nat.reduceEqDiff, if_true, if_false, popBin, binK, intK, strK, eqK, eq_self, true_and, and_true, g11_0]
  refine hM _ _ ?_
  clear hM M
  refine pops_to rfl fun M hM => ?_
  simp only [pop, St.eval, constSlot, upd_at, Nat.reduceEqDiff, if_true, if_false, popIf, true_implies, false_implies, Bool.true_eq_false, Bool.false_eq_true, reduceCtorEq, true_and, and_true, g11_0]
  refine hM _ _ ?_
  clear hM M
  exact pops_done (hJ6 _ (wk_same (wk_any ((wk_any (Wk.refl _ _))))))
 ·skip
  intro g11_0 J6 hJ6
  simp only [List.take_succ_cons, List.take_zero]
  simp only [anyAt_cons, anyAt_nil] at hJ6
  refine pops_off (b := true) rfl rfl (by simp only [upd_at, Nat.reduceEqDiff, if_true, if_false, g11_0]) (by decide) ?_
  refine pops_off (b := true) rfl rfl (by simp only [upd_at, Nat.reduceEqDiff, if_true, if_false, g11_0]) (by decide) ?_
  refine pops_to rfl fun M hM => ?_
  simp only [pop, St.eval, constSlot, upd_at, Nat.reduceEqDiff, if_true, if_false, popIf, true_implies, false_implies, Bool.true_eq_false, Bool.false_eq_true, reduceCtorEq, true_and, and_true, g11_0]
  refine hM _ _ ?_
  clear hM M
  exact pops_done (hJ6 _ (wk_same (wk_any ((wk_any (Wk.refl _ _))))))
 simp only [List.drop_succ_cons, List.drop_zero, anyAt_cons, anyAt_nil]
 refine pops_done (hR5 _ ?_)
 clear hR5 R5
 try simp only [thenK, scopeK]
 refine hN4 _ ?_
 clear hN4 N4
 refine pwp_cond (by simp only [St.eval, upd_at, Nat.reduceEqDiff, if_true, if_false] <;> rfl) (fun c14 => ?_) (fun c14 => ?_)
 ·skip
  have h : n < 0 ∨ 4611686018427387904 < n := by simpa using c14
  have hs : ageS n = ([], 7) := by rw [ageS, if_pos h]
  refine pwp_then fun N7 hN7 => ?_
  refine pwp_reg fun R8 hR8 => ?_
  refine pops_mv (.inr rfl) rfl (by simp only [St.eval, constSlot] <;> rfl) ?_
  refine pops_mv (.inr rfl) rfl (by simp only [St.eval, constSlot] <;> rfl) ?_
  refine pops_done (hR8 _ ?_)
  clear hR8 R8
  try simp only [thenK, scopeK]
  refine hN7 _ ?_
  clear hN7 N7
  refine pwp_ret ?_
  simp only [thenK, blockK, scopeK, bodyK]
  clear hN3 N3
  refine ⟨_, rfl, endFun (Same.refl _) ?_⟩
  try simp only [upd_at, Nat.reduceEqDiff, if_true, if_false]
  all_goals
   rw [hs]
 ·skip
  have hr : 0 ≤ n ∧ n ≤ 4611686018427387904 := by simp at c14; omega
  obtain ⟨m0, rfl⟩ : ∃ m0 : Nat, n = (m0 : Int) := ⟨n.toNat, by omega⟩
  have hs := ageS_ok m0 (by omega)
  refine pwp_skip ?_
  try simp only [thenK, scopeK]
  refine hN3 _ ?_
  clear hN3 N3
  refine pwp_then fun N9 hN9 => ?_
  refine pwp_then fun N10 hN10 => ?_
  refine pwp_reg fun R11 hR11 => ?_
  refine pops_mv (.inl rfl) rfl (by simp only [St.eval, upd_at, Nat.reduceEqDiff, if_true, if_false] <;> rfl) ?_
  refine pops_to rfl fun M hM => ?_
  simp only [pop, St.eval, constSlot, upd_at, Nat.reduceEqDiff, if_true, if_false, popBin, binK, intK, strK, eqK, Tryd.underlying3, isPtr, eq_self, true_and, and_true]
  refine hM _ _ ?_
  clear hM M
  refine pops_done (hR11 _ ?_)
  clear hR11 R11
  try simp only [thenK, scopeK]
  refine hN10 _ ?_
  clear hN10 N10
  refine pwp_cond (by simp only [St.eval, upd_at, Nat.reduceEqDiff, if_true, if_false] <;> rfl) (fun c16 => ?_) (fun c16 => ?_)
  ·skip
   have hz : m0 = 0 := by have := eq_of_beq c16; omega
   subst hz
   refine pwp_then fun N12 hN12 => ?_
   refine pwp_reg fun R13 hR13 => ?_
   refine pops_mv (.inr rfl) rfl (by simp only [St.eval, constSlot] <;> rfl) ?_
   refine pops_mv (.inr rfl) rfl (by simp only [St.eval, constSlot] <;> rfl) ?_
   refine pops_done (hR13 _ ?_)
   clear hR13 R13
   try simp only [thenK, scopeK]
   refine hN12 _ ?_
   clear hN12 N12
   refine pwp_ret ?_
   simp only [thenK, blockK, scopeK, bodyK]
   clear hN9 N9
   refine ⟨_, rfl, endFun (Same.refl _) ?_⟩
   try simp only [upd_at, Nat.reduceEqDiff, if_true, if_false]
   all_goals
    rw [hs]; rfl
  ·skip
   have hz : m0 ≠ 0 := by rintro rfl; simp at c16
   have hs2 : ageP m0 = prA UA m0 := by rw [ageP, if_neg hz]
   refine pwp_skip ?_
   try simp only [thenK, scopeK]
   refine hN9 _ ?_
   clear hN9 N9
   refine pwp_then fun N14 hN14 => ?_
   refine pwp_reg fun R15 hR15 => ?_
   refine pops_to rfl fun M hM => ?_
   simp only [pop, St.eval, constSlot, upd_at, Nat.reduceEqDiff, if_true, if_false, popCall, List.toList_toArray, List.map_cons, List.map_nil, svs, List.mapM_cons, List.mapM_nil, Option.bind_eq_bind, Option.bind_some, Option.pure_def, List.append_nil, List.cons_append, List.nil_append, str_size]
   refine PFun.use (ages_fun W0) fun h1 s1 => hM _ _ ?_
   replace s1 := Same.trans (Same.refl _) s1
   clear hM M
   refine pops_mv (.inl rfl) rfl (by simp only [St.eval, upd_at, Nat.reduceEqDiff, if_true, if_false] <;> rfl) ?_
   refine pops_to rfl fun M hM => ?_
   simp only [pop, St.eval, constSlot, upd_at, Nat.reduceEqDiff, if_true, if_false, List.getElem?_toArray, List.getElem?_cons_zero, List.getElem?_cons_succ]
   refine hM _ _ ?_
   clear hM M
   refine pops_to rfl fun M hM => ?_
   simp only [pop, St.eval, constSlot, upd_at, Nat.reduceEqDiff, if_true, if_false, List.getElem?_toArray, List.getElem?_cons_zero, List.getElem?_cons_succ]
   refine hM _ _ ?_
   clear hM M
   refine pops_mv (.inr rfl) rfl (by simp only [St.eval, upd_at, Nat.reduceEqDiff, if_true, if_false] <;> rfl) ?_
   refine pops_mv (.inr rfl) rfl (by simp only [St.eval, upd_at, Nat.reduceEqDiff, if_true, if_false] <;> rfl) ?_
   refine pops_done (hR15 _ ?_)
   clear hR15 R15
   try simp only [thenK, scopeK]
   refine hN14 _ ?_
   clear hN14 N14
   refine pwp_then fun N16 hN16 => ?_
   refine pwp_reg fun R17 hR17 => ?_
   refine pops_mv (.inr rfl) rfl (by simp only [St.eval, constSlot] <;> rfl) ?_
   refine pops_done (hR17 _ ?_)
   clear hR17 R17
   try simp only [thenK, scopeK]
   refine hN16 _ ?_
   clear hN16 N16
   refine pwp_then fun N18 hN18 => ?_
   refine pwp_then fun N19 hN19 => ?_
   refine pwp_reg fun R20 hR20 => ?_
   refine pops_mv (.inl rfl) rfl (by simp only [St.eval, upd_at, Nat.reduceEqDiff, if_true, if_false] <;> rfl) ?_
   refine pops_to rfl fun M hM => ?_
   simp only [pop, St.eval, constSlot, upd_at, Nat.reduceEqDiff, if_true, if_false, popCall, List.toList_toArray, List.map_cons, List.map_nil, popBuiltin, popLen, lenOfSlot, List.length_map, Tryd.underlying70, eq_self, true_and, and_true, str_list, str_size, str_app, str_cut, str_get]
   refine hM _ _ ?_
   clear hM M
   refine pops_mv (.inl rfl) rfl (by simp only [St.eval, constSlot] <;> rfl) ?_
   refine pops_done (hR20 _ ?_)
   clear hR20 R20
   try simp only [thenK, scopeK]
   refine hN19 _ ?_
   clear hN19 N19
   refine pwp_block ?_
   refine pwp_loop (fun k σ => ∃ (i : Nat), ∃ (m : Nat), ∃ (out : List UInt8), (k = 8 - i) ∧ (i ≤ 8) ∧ (m ≤ 4611686018427387904) ∧ (out ++ prA (UA.drop i) m = prA UA m0) ∧ (out.length ≤ i * 30) ∧ (Same h σ.hp) ∧ (σ.env 0 = .sv (.one (pint (m : Nat)))) ∧ (σ.env 6 = .sv (.one (pstr out))) ∧ (σ.env 23 = .sv (.one (pint (i : Nat)))) ∧ (σ.env 4 = .sv (.one (.ro true 1 UWR))) ∧ (σ.env 5 = .sv (.one (.ro true 1 USR))) ∧ (σ.env 21 = .sv (.one (.ro true 1 USR))) ∧ (σ.env 22 = .sv (.one (pint (USR.length : Nat))))) _ ⟨_, .refl _ _, 0, m0, [], rfl, ?_⟩ ?_
   · exact ⟨Nat.zero_le _, by omega, rfl, Nat.zero_le _, s1, by simp only [upd_at, Nat.reduceEqDiff, if_true, if_false], by simp only [upd_at, Nat.reduceEqDiff, if_true, if_false], by simp only [upd_at, Nat.reduceEqDiff, if_true, if_false]; rfl, by simp only [upd_at, Nat.reduceEqDiff, if_true, if_false], by simp only [upd_at, Nat.reduceEqDiff, if_true, if_false], by simp only [upd_at, Nat.reduceEqDiff, if_true, if_false], by simp only [upd_at, Nat.reduceEqDiff, if_true, if_false] <;> rfl⟩
   ·rintro k ⟨e, hp0⟩ ⟨i, m, out, hk0, hx0_0, hx0_1, hx0_2, hx0_3, sl0, e0_0, e0_6, e0_23, e0_4, e0_5, e0_21, e0_22⟩
    simp only at sl0 e0_0 e0_6 e0_23 e0_4 e0_5 e0_21 e0_22
    refine pwp_then fun N21 hN21 => ?_
    refine pwp_reg fun R22 hR22 => ?_
    refine pops_to rfl fun M hM => ?_
    simp only [pop, St.eval, constSlot, upd_at, Nat.reduceEqDiff, if_true, if_false, popBin, binK, intK, strK, eqK, eq_self, true_and, and_true, e0_0, e0_6, e0_23, e0_4, e0_5, e0_21, e0_22]
    refine hM _ _ ?_
    clear hM M
    refine pops_done (hR22 _ ?_)
    clear hR22 R22
    try simp only [thenK, scopeK]
    refine hN21 _ ?_
    clear hN21 N21
    refine pwp_then fun N23 hN23 => ?_
    refine pwp_cond (by simp only [St.eval, upd_at, Nat.reduceEqDiff, if_true, if_false, e0_0, e0_6, e0_23, e0_4, e0_5, e0_21, e0_22] <;> rfl) (fun c24 => ?_) (fun c24 => ?_)
    ·skip
     have hi : i < 8 := by have := of_decide_eq_true c24; simp only [List.length_cons, List.length_nil] at this; omega
     obtain ⟨w, u, hget, hgw, hgu, h0u, hub, hwl, hd⟩ := pr_at hi
     have hq := quo_nat m u (by omega)
     have hrm := rem_nat m u
     refine pwp_skip ?_
     try simp only [thenK, scopeK]
     refine hN23 _ ?_
     clear hN23 N23
     refine pwp_then fun N24 hN24 => ?_
     refine pwp_block ?_
     refine pwp_then fun N25 hN25 => ?_
     refine pwp_reg fun R26 hR26 => ?_
     refine pops_mv (.inl rfl) rfl (by simp only [St.eval, upd_at, Nat.reduceEqDiff, if_true, if_false, e0_0, e0_6, e0_23, e0_4, e0_5, e0_21, e0_22] <;> rfl) ?_
     refine pops_to rfl fun M hM => ?_
     simp only [pop, St.eval, constSlot, upd_at, Nat.reduceEqDiff, if_true, if_false, popIndexAddr, Tryd.underlying70, sz3, eq_self, true_and, and_true, str_list, str_size, str_app, str_cut, str_get, e0_0, e0_6, e0_23, e0_4, e0_5, e0_21, e0_22, hgu, Int.toNat_natCast]
     refine ⟨Int.natCast_nonneg _, hM _ _ ?_⟩
     clear hM M
     refine pops_to rfl fun M hM => ?_
     simp only [pop, St.eval, constSlot, upd_at, Nat.reduceEqDiff, if_true, if_false, popLoad, loadK, isAggD, List.drop_zero, List.getElem?_toArray, List.getElem?_cons_zero, List.getElem?_cons_succ, Bool.false_eq_true, Tryd.underlying3, sz3, eq_self, true_and, and_true, e0_0, e0_6, e0_23, e0_4, e0_5, e0_21, e0_22]
     refine hM _ _ ?_
     clear hM M
     refine pops_mv (.inr rfl) rfl (by simp only [St.eval, upd_at, Nat.reduceEqDiff, if_true, if_false, e0_0, e0_6, e0_23, e0_4, e0_5, e0_21, e0_22] <;> rfl) ?_
     refine pops_mv (.inr rfl) rfl (by simp only [St.eval, upd_at, Nat.reduceEqDiff, if_true, if_false, e0_0, e0_6, e0_23, e0_4, e0_5, e0_21, e0_22] <;> rfl) ?_
     refine pops_done (hR26 _ ?_)
     clear hR26 R26
     try simp only [thenK, scopeK]
     refine hN25 _ ?_
     clear hN25 N25
     refine pwp_then fun N27 hN27 => ?_
     refine pwp_reg fun R28 hR28 => ?_
     refine pops_mv (.inl rfl) rfl (by simp only [St.eval, upd_at, Nat.reduceEqDiff, if_true, if_false, e0_0, e0_6, e0_23, e0_4, e0_5, e0_21, e0_22] <;> rfl) ?_
     refine pops_mv (.inl rfl) rfl (by simp only [St.eval, upd_at, Nat.reduceEqDiff, if_true, if_false, e0_0, e0_6, e0_23, e0_4, e0_5, e0_21, e0_22] <;> rfl) ?_
     refine pops_to rfl fun M hM => ?_
     simp only [pop, St.eval, constSlot, upd_at, Nat.reduceEqDiff, if_true, if_false, popBin, binK, intK, strK, eqK, eq_self, true_and, and_true, e0_0, e0_6, e0_23, e0_4, e0_5, e0_21, e0_22]
     refine hM _ _ ?_
     clear hM M
     refine pops_done (hR28 _ ?_)
     clear hR28 R28
     try simp only [thenK, scopeK]
     refine hN27 _ ?_
     clear hN27 N27
     refine pwp_cond (by simp only [St.eval, upd_at, Nat.reduceEqDiff, if_true, if_false, e0_0, e0_6, e0_23, e0_4, e0_5, e0_21, e0_22] <;> rfl) (fun c30 => ?_) (fun c30 => ?_)
     ·skip
      have hk : 0 < m / u := Nat.div_pos (by have := of_decide_eq_true c30; omega) h0u
      have hpr := pr_take hd hk
      have hdl := dec_len20 (div_le' m u hx0_1)
      refine pwp_then fun N29 hN29 => ?_
      refine pwp_dreg 12 mixed (by decide +kernel) fun R30 hR30 => ?_
      simp only [List.take_succ_cons, List.take_zero, List.drop_succ_cons, List.drop_zero]
      apply lex_to
      · rfl
      ·intro h' s' M hM
       simp only [pop, St.eval, constSlot, upd_at, Nat.reduceEqDiff, if_true, if_false, eq_self, true_and, and_true, str_list, str_size, str_app, str_cut, str_get, e0_0, e0_6, e0_23, e0_4, e0_5, e0_21, e0_22, s'.1]
       exact hM _ (.refl _)
      apply lex_to
      · rfl
      ·intro h' s' M hM
       simp only [pop, St.eval, constSlot, upd_at, Nat.reduceEqDiff, if_true, if_false, eq_self, true_and, and_true, str_list, str_size, str_app, str_cut, str_get, e0_0, e0_6, e0_23, e0_4, e0_5, e0_21, e0_22, s'.1]
       exact hM _ (.refl _)
      apply lex_to
      · rfl
      ·intro h' s' M hM
       simp only [pop, St.eval, constSlot, upd_at, Nat.reduceEqDiff, if_true, if_false, eq_self, true_and, and_true, str_list, str_size, str_app, str_cut, str_get, e0_0, e0_6, e0_23, e0_4, e0_5, e0_21, e0_22, s'.1]
       exact hM _ (.refl _)
      apply lex_to
      · rfl
      ·intro h' s' M hM
       simp only [pop, St.eval, constSlot, upd_at, Nat.reduceEqDiff, if_true, if_false, popBin, binK, intK, strK, eqK, eq_self, true_and, and_true, e0_0, e0_6, e0_23, e0_4, e0_5, e0_21, e0_22, hq, s'.1]
       refine ⟨by omega, ?_⟩
       exact hM _ (.refl _)
      apply lex_to
      · rfl
      ·intro h' s' M hM
       simp only [pop, St.eval, constSlot, upd_at, Nat.reduceEqDiff, if_true, if_false, popCall, List.toList_toArray, List.map_cons, List.map_nil, svs, List.mapM_cons, List.mapM_nil, Option.bind_eq_bind, Option.bind_some, Option.pure_def, List.append_nil, List.cons_append, List.nil_append, str_size, e0_0, e0_6, e0_23, e0_4, e0_5, e0_21, e0_22, s'.1]
       refine PFun.use (itoa_fun W0 hp (m / u) (by have := div_le' m u hx0_1; omega)) fun hp s => hM _ s
      apply lex_to
      · rfl
      ·intro h' s' M hM
       simp only [pop, St.eval, constSlot, upd_at, Nat.reduceEqDiff, if_true, if_false, eq_self, true_and, and_true, str_list, str_size, str_app, str_cut, str_get, e0_0, e0_6, e0_23, e0_4, e0_5, e0_21, e0_22, s'.1]
       exact hM _ (.refl _)
      apply lex_to
      · rfl
      ·intro h' s' M hM
       simp only [pop, St.eval, constSlot, upd_at, Nat.reduceEqDiff, if_true, if_false, eq_self, true_and, and_true, str_list, str_size, str_app, str_cut, str_get, e0_0, e0_6, e0_23, e0_4, e0_5, e0_21, e0_22, s'.1]
       exact hM _ (.refl _)
      apply lex_to
      · rfl
      ·intro h' s' M hM
       simp only [pop, St.eval, constSlot, upd_at, Nat.reduceEqDiff, if_true, if_false, popIndexAddr, Tryd.underlying32, sz9, eq_self, true_and, and_true, str_list, str_size, str_app, str_cut, str_get, e0_0, e0_6, e0_23, e0_4, e0_5, e0_21, e0_22, hgw, Int.toNat_natCast, s'.1]
       refine ⟨Int.natCast_nonneg _, ?_⟩
       exact hM _ (.refl _)
      apply lex_to
      · rfl
      ·intro h' s' M hM
       simp only [pop, St.eval, constSlot, upd_at, Nat.reduceEqDiff, if_true, if_false, popLoad, loadK, isAggD, List.drop_zero, List.getElem?_toArray, List.getElem?_cons_zero, List.getElem?_cons_succ, Bool.false_eq_true, Tryd.underlying9, sz9, eq_self, true_and, and_true, e0_0, e0_6, e0_23, e0_4, e0_5, e0_21, e0_22, s'.1]
       exact hM _ (.refl _)
      apply lex_to
      · rfl
      ·intro h' s' M hM
       simp only [pop, St.eval, constSlot, upd_at, Nat.reduceEqDiff, if_true, if_false, popBin, binK, intK, strK, eqK, eq_self, true_and, and_true, str_list, str_size, str_app, str_cut, str_get, e0_0, e0_6, e0_23, e0_4, e0_5, e0_21, e0_22, s'.1]
       refine ⟨by first | omega | (simp only [List.length_append]; omega) | (simp; omega), ?_⟩
       exact hM _ (.refl _)
      apply lex_to
      · rfl
      ·intro h' s' M hM
       simp only [pop, St.eval, constSlot, upd_at, Nat.reduceEqDiff, if_true, if_false, popBin, binK, intK, strK, eqK, eq_self, true_and, and_true, str_list, str_size, str_app, str_cut, str_get, e0_0, e0_6, e0_23, e0_4, e0_5, e0_21, e0_22, s'.1]
       refine ⟨by first | omega | (simp only [List.length_append]; omega) | (simp; omega), ?_⟩
       exact hM _ (.refl _)
      apply lex_to
      · rfl
      ·intro h' s' M hM
       simp only [pop, St.eval, constSlot, upd_at, Nat.reduceEqDiff, if_true, if_false, eq_self, true_and, and_true, str_list, str_size, str_app, str_cut, str_get, e0_0, e0_6, e0_23, e0_4, e0_5, e0_21, e0_22, s'.1]
       exact hM _ (.refl _)
      refine lex_done fun hq sq => ?_
      replace sq := Same.trans sl0 sq
      refine pops_done (hR30 _ ?_)
      clear hR30 R30
      try simp only [thenK, scopeK]
      refine hN29 _ ?_
      clear hN29 N29
      refine pwp_reg fun R31 hR31 => ?_
      refine pops_mv (.inl rfl) rfl (by simp only [St.eval, upd_at, Nat.reduceEqDiff, if_true, if_false, e0_0, e0_6, e0_23, e0_4, e0_5, e0_21, e0_22] <;> rfl) ?_
      refine pops_mv (.inl rfl) rfl (by simp only [St.eval, upd_at, Nat.reduceEqDiff, if_true, if_false, e0_0, e0_6, e0_23, e0_4, e0_5, e0_21, e0_22] <;> rfl) ?_
      refine pops_to rfl fun M hM => ?_
      simp only [pop, St.eval, constSlot, upd_at, Nat.reduceEqDiff, if_true, if_false, popBin, binK, intK, strK, eqK, eq_self, true_and, and_true, e0_0, e0_6, e0_23, e0_4, e0_5, e0_21, e0_22, hrm]
      refine ⟨by omega, hM _ _ ?_⟩
      clear hM M
      refine pops_mv (.inr rfl) rfl (by simp only [St.eval, upd_at, Nat.reduceEqDiff, if_true, if_false, e0_0, e0_6, e0_23, e0_4, e0_5, e0_21, e0_22] <;> rfl) ?_
      refine pops_done (hR31 _ ?_)
      clear hR31 R31
      try simp only [blockK, thenK, scopeK]
      try simp only [thenK, scopeK]
      refine hN24 _ ?_
      clear hN24 N24
      refine pwp_reg fun R32 hR32 => ?_
      refine pops_to rfl fun M hM => ?_
      simp only [pop, St.eval, constSlot, upd_at, Nat.reduceEqDiff, if_true, if_false, popBin, binK, intK, strK, eqK, eq_self, true_and, and_true, e0_0, e0_6, e0_23, e0_4, e0_5, e0_21, e0_22]
      refine hM _ _ ?_
      clear hM M
      refine pops_mv (.inl rfl) rfl (by simp only [St.eval, upd_at, Nat.reduceEqDiff, if_true, if_false, e0_0, e0_6, e0_23, e0_4, e0_5, e0_21, e0_22] <;> rfl) ?_
      refine pops_done (hR32 _ ?_)
      clear hR32 R32
      try simp only [thenK, scopeK]
      exact ⟨_, by omega, _, .refl _ _, i + 1, m % u, out ++ (Lib.decDigits (m / u) ++ w), rfl, by omega, Nat.le_trans (Nat.mod_le _ _) hx0_1, by rw [List.append_assoc, List.append_assoc, ← hpr]; exact hx0_2, by simp only [List.length_append]; omega, sq, by simp only [upd_at, Nat.reduceEqDiff, if_true, if_false, e0_0, e0_6, e0_23, e0_4, e0_5, e0_21, e0_22], by simp only [upd_at, Nat.reduceEqDiff, if_true, if_false, e0_0, e0_6, e0_23, e0_4, e0_5, e0_21, e0_22], by simp only [upd_at, Nat.reduceEqDiff, if_true, if_false, e0_23]; rw [wrap_succ (by omega)], by simp only [upd_at, Nat.reduceEqDiff, if_true, if_false, e0_0, e0_6, e0_23, e0_4, e0_5, e0_21, e0_22], by simp only [upd_at, Nat.reduceEqDiff, if_true, if_false, e0_0, e0_6, e0_23, e0_4, e0_5, e0_21, e0_22], by simp only [upd_at, Nat.reduceEqDiff, if_true, if_false, e0_0, e0_6, e0_23, e0_4, e0_5, e0_21, e0_22], by simp only [upd_at, Nat.reduceEqDiff, if_true, if_false, e0_0, e0_6, e0_23, e0_4, e0_5, e0_21, e0_22]⟩
     ·skip
      have hk : ¬ 0 < m / u := by rw [Nat.div_eq_of_lt (by have := of_decide_eq_false c30; omega)]; omega
      have hpr := pr_pass hd hk
      refine pwp_skip ?_
      try simp only [blockK, thenK, scopeK]
      try simp only [thenK, scopeK]
      refine hN24 _ ?_
      clear hN24 N24
      refine pwp_reg fun R33 hR33 => ?_
      refine pops_to rfl fun M hM => ?_
      simp only [pop, St.eval, constSlot, upd_at, Nat.reduceEqDiff, if_true, if_false, popBin, binK, intK, strK, eqK, eq_self, true_and, and_true, e0_0, e0_6, e0_23, e0_4, e0_5, e0_21, e0_22]
      refine hM _ _ ?_
      clear hM M
      refine pops_mv (.inl rfl) rfl (by simp only [St.eval, upd_at, Nat.reduceEqDiff, if_true, if_false, e0_0, e0_6, e0_23, e0_4, e0_5, e0_21, e0_22] <;> rfl) ?_
      refine pops_done (hR33 _ ?_)
      clear hR33 R33
      try simp only [thenK, scopeK]
      exact ⟨_, by omega, _, .refl _ _, i + 1, m, out, rfl, by omega, by omega, by rw [← hpr]; exact hx0_2, by omega, sl0, by simp only [upd_at, Nat.reduceEqDiff, if_true, if_false, e0_0, e0_6, e0_23, e0_4, e0_5, e0_21, e0_22], by simp only [upd_at, Nat.reduceEqDiff, if_true, if_false, e0_0, e0_6, e0_23, e0_4, e0_5, e0_21, e0_22], by simp only [upd_at, Nat.reduceEqDiff, if_true, if_false, e0_23]; rw [wrap_succ (by omega)], by simp only [upd_at, Nat.reduceEqDiff, if_true, if_false, e0_0, e0_6, e0_23, e0_4, e0_5, e0_21, e0_22], by simp only [upd_at, Nat.reduceEqDiff, if_true, if_false, e0_0, e0_6, e0_23, e0_4, e0_5, e0_21, e0_22], by simp only [upd_at, Nat.reduceEqDiff, if_true, if_false, e0_0, e0_6, e0_23, e0_4, e0_5, e0_21, e0_22], by simp only [upd_at, Nat.reduceEqDiff, if_true, if_false, e0_0, e0_6, e0_23, e0_4, e0_5, e0_21, e0_22]⟩
    ·skip
     have hi : i = 8 := by have := of_decide_eq_false c24; simp only [List.length_cons, List.length_nil] at this; omega
     subst hi
     have hend := pr_end hx0_2
     refine pwp_exit ?_
     try simp only [thenK, blockK, scopeK, if_true, Nat.reduceEqDiff, if_false]
     clear hN23 N23
     try simp only [blockK, scopeK, if_true, Nat.reduceEqDiff, if_false, thenK]
     try simp only [thenK, scopeK]
     refine hN18 _ ?_
     clear hN18 N18
     refine pwp_then fun N34 hN34 => ?_
     refine pwp_reg fun R35 hR35 => ?_
     refine pops_mv (.inl rfl) rfl (by simp only [St.eval, upd_at, Nat.reduceEqDiff, if_true, if_false, e0_0, e0_6, e0_23, e0_4, e0_5, e0_21, e0_22] <;> rfl) ?_
     refine pops_mv (.inr rfl) rfl (by simp only [St.eval, upd_at, Nat.reduceEqDiff, if_true, if_false, e0_0, e0_6, e0_23, e0_4, e0_5, e0_21, e0_22] <;> rfl) ?_
     refine pops_mv (.inr rfl) rfl (by simp only [St.eval, constSlot] <;> rfl) ?_
     refine pops_done (hR35 _ ?_)
     clear hR35 R35
     try simp only [thenK, scopeK]
     refine hN34 _ ?_
     clear hN34 N34
     refine pwp_ret ?_
     simp only [thenK, blockK, scopeK, bodyK]
     refine ⟨_, rfl, endFun sl0 ?_⟩
     try simp only [upd_at, Nat.reduceEqDiff, if_true, if_false, e0_0, e0_6, e0_23, e0_4, e0_5, e0_21, e0_22]
     all_goals
      rw [hs, hend, ← hs2]
end Go.Pw
