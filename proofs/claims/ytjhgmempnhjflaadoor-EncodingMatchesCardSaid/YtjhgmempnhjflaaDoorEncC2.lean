import Derived.Test.YtjhgmempnhjflaaDoorEncC
import Derived.Test.YtjhgmempnhjflaaDoorEncB2
namespace Go.Pw
open Go Go.RowKit Go.Proofs
set_option maxRecDepth 100000
set_option linter.unusedSimpArgs false
set_option linter.unusedVariables false
theorem nm101 : (Tryd.f101.name == "runtime.NumGoroutine") = false := by kernel_rfl
theorem encodedC_fun (W0 : World) (l : List UInt8) (c : UInt8) :
  PFun Tryd.prog W0 101 [.one (pstr l), .one (.rop [.val (.int .u8 c.toNat)])] (.sv (.one (pbool (l.contains c)))) := by
 intro h
 refine pcalls2 (n := 8) Tryd.func101 rfl nm101 rfl fun hb => ?_
 refine pwp_then fun N1 hN1 => ?_
 refine pwp_reg fun R2 hR2 => ?_
 refine pops_mv (.inr rfl) rfl (by simp only [St.eval, constSlot] <;> rfl) ?_
 refine pops_done (hR2 _ ?_)
 clear hR2 R2
 try simp only [thenK, scopeK]
 refine hN1 _ ?_
 clear hN1 N1
 refine pwp_then fun N3 hN3 => ?_
 refine pwp_reg fun R4 hR4 => ?_
 refine pops_mv (.inl rfl) rfl (by simp only [St.eval, upd_at, Nat.reduceEqDiff, if_true, if_false] <;> rfl) ?_
 refine pops_to rfl fun M hM => ?_
 simp only [pop, St.eval, constSlot, upd_at, Nat.reduceEqDiff, if_true, if_false, popLoad, loadK, isAggD, List.drop_zero, List.getElem?_toArray, List.getElem?_cons_zero, List.getElem?_cons_succ, Bool.false_eq_true, Tryd.underlying5, sz5, eq_self, true_and, and_true]
 refine hM _ _ ?_
 clear hM M
 refine pops_to rfl fun M hM => ?_
 simp only [pop, St.eval, constSlot, upd_at, Nat.reduceEqDiff, if_true, if_false, popCall, List.toList_toArray, List.map_cons, List.map_nil, svs, List.mapM_cons, List.mapM_nil, Option.bind_eq_bind, Option.bind_some, Option.pure_def, List.append_nil, List.cons_append, List.nil_append, str_size]
 refine PFun.use (indexByte_fun W0 l c) fun h1 s1 => hM _ _ ?_
 replace s1 := Same.trans (Same.refl _) s1
 clear hM M
 refine pops_to rfl fun M hM => ?_
 simp only [pop, St.eval, constSlot, upd_at, Nat.reduceEqDiff, if_true, if_false, popBin, binK, intK, strK, eqK, eq_self, true_and, and_true]
 refine hM _ _ ?_
 clear hM M
 refine pops_mv (.inr rfl) rfl (by simp only [St.eval, upd_at, Nat.reduceEqDiff, if_true, if_false] <;> rfl) ?_
 refine pops_done (hR4 _ ?_)
 clear hR4 R4
 try simp only [thenK, scopeK]
 refine hN3 _ ?_
 clear hN3 N3
 refine pwp_ret ?_
 simp only [thenK, blockK, scopeK, bodyK]
 refine ⟨_, rfl, endFun s1 ?_⟩
 try simp only [upd_at, Nat.reduceEqDiff, if_true, if_false]
 all_goals
  rw [ix_dec]

theorem nm88 : (Tryd.f88.name == "runtime.NumGoroutine") = false := by kernel_rfl
set_option maxHeartbeats 2000000 in
theorem encodedRef_fun (W0 : World) (x : Enc) (s : List UInt8) (hs : s.length ≤ 1048576) (hnl : x.names.length ≤ 9223372036854775807) :
  PFun Tryd.prog W0 88 [.agg (encPV x), .one (pstr s)] (.sv (.one (pstr (encName x s)))) := by
 intro h
 refine pcalls2 (n := 101) Tryd.func88 rfl nm88 rfl fun hb => ?_
 refine pwp_then fun N1 hN1 => ?_
 refine pwp_reg fun R2 hR2 => ?_
 refine pops_to rfl fun M hM => ?_
 simp only [pop, St.eval, constSlot, upd_at, Nat.reduceEqDiff, if_true, if_false, popBox, popBoxRo, slotCells, encPV]
 refine .inr ⟨Nat.succ_pos _, hM _ _ ?_⟩
 clear hM M
 refine pops_mv (.inr rfl) rfl (by simp only [St.eval, constSlot] <;> rfl) ?_
 refine pops_done (hR2 _ ?_)
 clear hR2 R2
 try simp only [thenK, scopeK]
 refine hN1 _ ?_
 clear hN1 N1
 refine pwp_then fun N3 hN3 => ?_
 refine pwp_reg fun R4 hR4 => ?_
 refine pops_mv (.inr rfl) rfl (by simp only [St.eval, constSlot] <;> rfl) ?_
 refine pops_done (hR4 _ ?_)
 clear hR4 R4
 try simp only [thenK, scopeK]
 refine hN3 _ ?_
 clear hN3 N3
 refine pwp_then fun N5 hN5 => ?_
 refine pwp_dreg 6 mixed (by decide +kernel) fun R6 hR6 => ?_
 simp only [List.take_succ_cons, List.take_zero, List.drop_succ_cons, List.drop_zero]
 apply lex_to
 · rfl
 ·intro h' s' M hM
  simp only [pop, St.eval, constSlot, upd_at, Nat.reduceEqDiff, if_true, if_false, popFieldAddr, fieldOf, List.drop_succ_cons, List.drop_zero, List.getElem?_toArray, List.getElem?_cons_zero, List.getElem?_cons_succ, Tryd.underlying64, sz49, encPV, s'.1]
  exact ⟨⟨_, rfl⟩, hM _ (.refl _)⟩
 apply lex_to
 · rfl
 ·intro h' s' M hM
  simp only [pop, St.eval, constSlot, upd_at, Nat.reduceEqDiff, if_true, if_false, popLoad, loadK, isAggD, List.drop_zero, List.getElem?_toArray, List.getElem?_cons_zero, List.getElem?_cons_succ, Bool.false_eq_true, Tryd.underlying49, sz49, eq_self, true_and, and_true, encPV, s'.1]
  exact hM _ (.refl _)
 apply lex_to
 · rfl
 ·intro h' s' M hM
  simp only [pop, St.eval, constSlot, upd_at, Nat.reduceEqDiff, if_true, if_false, eq_self, true_and, and_true, str_list, str_size, str_app, str_cut, str_get, encPV, s'.1]
  exact hM _ (.refl _)
 apply lex_to
 · rfl
 ·intro h' s' M hM
  simp only [pop, St.eval, constSlot, upd_at, Nat.reduceEqDiff, if_true, if_false, popCall, List.toList_toArray, List.map_cons, List.map_nil, svs, List.mapM_cons, List.mapM_nil, Option.bind_eq_bind, Option.bind_some, Option.pure_def, List.append_nil, List.cons_append, List.nil_append, str_size, encPV, s'.1]
  refine PFun.use (lower_fun W0 s (by omega)) fun hp s => hM _ s
 apply lex_to
 · rfl
 ·intro h' s' M hM
  simp only [pop, St.eval, constSlot, upd_at, Nat.reduceEqDiff, if_true, if_false, popCall, List.toList_toArray, List.map_cons, List.map_nil, svs, List.mapM_cons, List.mapM_nil, Option.bind_eq_bind, Option.bind_some, Option.pure_def, List.append_nil, List.cons_append, List.nil_append, str_size, encPV, s'.1]
  refine PFun.use (containsS_fun W0 false x.names (s.map lowC) hnl) fun hp s => hM _ s
 apply lex_to
 · rfl
 ·intro h' s' M hM
  simp only [pop, St.eval, constSlot, upd_at, Nat.reduceEqDiff, if_true, if_false, eq_self, true_and, and_true, str_list, str_size, str_app, str_cut, str_get, encPV, s'.1]
  exact hM _ (.refl _)
 refine lex_done fun hq sq => ?_
 skip
 refine pops_done (hR6 _ ?_)
 clear hR6 R6
 try simp only [thenK, scopeK]
 refine hN5 _ ?_
 clear hN5 N5
 refine pwp_then fun N7 hN7 => ?_
 refine pwp_then fun N8 hN8 => ?_
 refine pwp_reg fun R9 hR9 => ?_
 refine pops_mv (.inl rfl) rfl (by simp only [St.eval, upd_at, Nat.reduceEqDiff, if_true, if_false, encPV] <;> rfl) ?_
 refine pops_to rfl fun M hM => ?_
 simp only [pop, St.eval, constSlot, upd_at, Nat.reduceEqDiff, if_true, if_false, popCall, List.toList_toArray, List.map_cons, List.map_nil, popBuiltin, popLen, lenOfSlot, List.length_map, Tryd.underlying9, eq_self, true_and, and_true, str_list, str_size, str_app, str_cut, str_get, encPV]
 refine hM _ _ ?_
 clear hM M
 refine pops_mv (.inl rfl) rfl (by simp only [St.eval, constSlot] <;> rfl) ?_
 refine pops_done (hR9 _ ?_)
 clear hR9 R9
 try simp only [thenK, scopeK]
 refine hN8 _ ?_
 clear hN8 N8
 refine pwp_block ?_
 refine pwp_loop (fun k σ => ∃ (i : Nat), ∃ (sl : Slot), ∃ (out : List UInt8), (k = s.length - i) ∧ (i ≤ s.length) ∧ (out ++ encFrom x (x.names.contains (lowL s)) s.length i (s.drop i) = encName x s) ∧ (out.length ≤ 3 * i) ∧ (Keeps h σ.hp ∧ RowIs 5 1 h σ.hp sl (out.map byteCell)) ∧ (σ.env 2 = .sv (.one (.rop (encPV x)))) ∧ (σ.env 1 = .sv (.one (pstr s))) ∧ (σ.env 5 = sl) ∧ (σ.env 6 = .sv (.one (pbool (x.names.contains (lowL s))))) ∧ (σ.env 16 = .sv (.one (pint (s.length : Nat)))) ∧ (σ.env 17 = .sv (.one (pint (i : Nat))))) _ ⟨_, .refl _ _, 0, (.sv (.one (.val (.slice none 0 0)))), [], rfl, ?_⟩ ?_
 · exact ⟨Nat.zero_le _, rfl, by simp, ⟨Same.keeps sq, .nil _ _ _ _⟩, by simp only [upd_at, Nat.reduceEqDiff, if_true, if_false, encPV], by simp only [upd_at, Nat.reduceEqDiff, if_true, if_false, encPV], by simp only [upd_at, Nat.reduceEqDiff, if_true, if_false, encPV], by simp only [upd_at, Nat.reduceEqDiff, if_true, if_false]; rfl, by simp only [upd_at, Nat.reduceEqDiff, if_true, if_false, encPV], by simp only [upd_at, Nat.reduceEqDiff, if_true, if_false]; rfl⟩
 ·rintro k ⟨e, hp0⟩ ⟨i, sl, out, hk0, hx0_0, hx0_1, hx0_2, sl0, e0_2, e0_1, e0_5, e0_6, e0_16, e0_17⟩
  simp only at sl0 e0_2 e0_1 e0_5 e0_6 e0_16 e0_17
  obtain ⟨hk0, ho⟩ := sl0
  refine pwp_hpok fun hok0 => ?_
  simp only at hok0
  refine pwp_then fun N10 hN10 => ?_
  refine pwp_reg fun R11 hR11 => ?_
  refine pops_to rfl fun M hM => ?_
  simp only [pop, St.eval, constSlot, upd_at, Nat.reduceEqDiff, if_true, if_false, popBin, binK, intK, strK, eqK, eq_self, true_and, and_true, e0_2, e0_1, e0_5, e0_6, e0_16, e0_17, encPV]
  refine hM _ _ ?_
  clear hM M
  refine pops_done (hR11 _ ?_)
  clear hR11 R11
  try simp only [thenK, scopeK]
  refine hN10 _ ?_
  clear hN10 N10
  refine pwp_then fun N12 hN12 => ?_
  refine pwp_cond (by simp only [St.eval, upd_at, Nat.reduceEqDiff, if_true, if_false, e0_2, e0_1, e0_5, e0_6, e0_16, e0_17, encPV] <;> rfl) (fun c18 => ?_) (fun c18 => ?_)
  ·skip
   have hi : i < s.length := by have := of_decide_eq_true c18; omega
   obtain ⟨c, hx⟩ : ∃ c, s[i]? = some c := ⟨_, List.getElem?_eq_getElem hi⟩
   have hwl := wrap_pred (n := s.length) (by omega) (by omega)
   refine pwp_skip ?_
   try simp only [thenK, scopeK]
   refine hN12 _ ?_
   clear hN12 N12
   refine pwp_then fun N13 hN13 => ?_
   refine pwp_block ?_
   refine pwp_then fun N14 hN14 => ?_
   refine pwp_reg fun R15 hR15 => ?_
   refine pops_mv (.inl rfl) rfl (by simp only [St.eval, upd_at, Nat.reduceEqDiff, if_true, if_false, e0_2, e0_1, e0_5, e0_6, e0_16, e0_17, encPV] <;> rfl) ?_
   refine pops_mv (.inr rfl) rfl (by simp only [St.eval, upd_at, Nat.reduceEqDiff, if_true, if_false, e0_2, e0_1, e0_5, e0_6, e0_16, e0_17, encPV] <;> rfl) ?_
   refine pops_done (hR15 _ ?_)
   clear hR15 R15
   try simp only [thenK, scopeK]
   refine hN14 _ ?_
   clear hN14 N14
   refine pwp_then fun N16 hN16 => ?_
   refine pwp_reg fun R17 hR17 => ?_
   refine pops_mv (.inl rfl) rfl (by simp only [St.eval, upd_at, Nat.reduceEqDiff, if_true, if_false, e0_2, e0_1, e0_5, e0_6, e0_16, e0_17, encPV] <;> rfl) ?_
   refine pops_mv (.inl rfl) rfl (by simp only [St.eval, upd_at, Nat.reduceEqDiff, if_true, if_false, e0_2, e0_1, e0_5, e0_6, e0_16, e0_17, encPV] <;> rfl) ?_
   refine pops_to rfl fun M hM => ?_
   simp only [pop, St.eval, constSlot, upd_at, Nat.reduceEqDiff, if_true, if_false, popIndex, partK, Tryd.underlying9, eq_self, true_and, and_true, str_list, str_size, str_app, str_cut, str_get, e0_2, e0_1, e0_5, e0_6, e0_16, e0_17, encPV, hx, Int.toNat_natCast]
   refine ⟨Int.natCast_nonneg _, hM _ _ ?_⟩
   clear hM M
   refine pops_var (hpOk.same hok0 (Same.refl _)) rfl ze5 rfl (by simp) (by simp only [St.eval, constSlot, slotCells, upd_at, Nat.reduceEqDiff, if_true, if_false, e0_2, e0_1, e0_5, e0_6, e0_16, e0_17, encPV] <;> rfl) (by rfl) (by exact Nat.succ_pos _) (by rw [sz5]; rfl) (fun hv18 sv18 => ?_)
   refine pops_done (hR17 _ ?_)
   clear hR17 R17
   try simp only [thenK, scopeK]
   refine hN16 _ ?_
   clear hN16 N16
   refine pwp_then fun N19 hN19 => ?_
   refine pwp_reg fun R20 hR20 => ?_
   refine pops_to rfl fun M hM => ?_
   simp only [pop, St.eval, constSlot, upd_at, Nat.reduceEqDiff, if_true, if_false, onesOf, List.toList_toArray, List.map_cons, List.map_nil, List.mapM_cons, List.mapM_nil, Option.bind_eq_bind, Option.bind_some, Option.pure_def, eq_self, true_and, e0_2, e0_1, e0_5, e0_6, e0_16, e0_17, encPV]
   refine hM _ _ ?_
   clear hM M
   refine pops_mv (.inr rfl) rfl (by simp only [St.eval, upd_at, Nat.reduceEqDiff, if_true, if_false, e0_2, e0_1, e0_5, e0_6, e0_16, e0_17, encPV] <;> rfl) ?_
   refine pops_done (hR20 _ ?_)
   clear hR20 R20
   try simp only [thenK, scopeK]
   refine hN19 _ ?_
   clear hN19 N19
   refine pwp_block ?_
   refine pwp_then fun N21 hN21 => ?_
   refine pwp_reg fun R22 hR22 => ?_
   refine pops_to rfl fun M hM => ?_
   simp only [pop, St.eval, constSlot, upd_at, Nat.reduceEqDiff, if_true, if_false, popLoad, loadK, isAggD, List.drop_zero, List.getElem?_toArray, List.getElem?_cons_zero, List.getElem?_cons_succ, Bool.false_eq_true, Tryd.underlying5, sz5, eq_self, true_and, and_true, e0_2, e0_1, e0_5, e0_6, e0_16, e0_17, encPV]
   refine hM _ _ ?_
   clear hM M
   refine pops_to rfl fun M hM => ?_
   simp only [pop, St.eval, constSlot, upd_at, Nat.reduceEqDiff, if_true, if_false, popBin, binK, intK, strK, eqK, Tryd.underlying5, isPtr, eq_self, true_and, and_true, e0_2, e0_1, e0_5, e0_6, e0_16, e0_17, encPV]
   refine hM _ _ ?_
   clear hM M
   refine pops_mv (.inl rfl) rfl (by simp only [St.eval, upd_at, Nat.reduceEqDiff, if_true, if_false, e0_2, e0_1, e0_5, e0_6, e0_16, e0_17, encPV] <;> rfl) ?_
   apply pops_or 5 31 36 [32, 33, 34, 35] (by simp only [upd_at, Nat.reduceEqDiff, if_true, if_false, e0_2, e0_1, e0_5, e0_6, e0_16, e0_17, encPV] <;> rfl)
   ·skip
    intro g31_0 J23 hJ23
    simp only [List.take_succ_cons, List.take_zero]
    simp only [anyAt_cons, anyAt_nil] at hJ23
    refine pops_mvg (.inl rfl) rfl rfl (by simp only [upd_at, Nat.reduceEqDiff, if_true, if_false, e0_2, e0_1, e0_5, e0_6, e0_16, e0_17, encPV, g31_0]) (by simp only [St.eval, upd_at, Nat.reduceEqDiff, if_true, if_false, e0_2, e0_1, e0_5, e0_6, e0_16, e0_17, encPV, g31_0] <;> rfl) ?_
    refine pops_do rfl rfl (by simp only [upd_at, Nat.reduceEqDiff, if_true, if_false, e0_2, e0_1, e0_5, e0_6, e0_16, e0_17, encPV, g31_0]) fun M hM => ?_
    simp only [pop, St.eval, constSlot, upd_at, Nat.reduceEqDiff, if_true, if_false, popFieldAddr, fieldOf, List.drop_succ_cons, List.drop_zero, List.getElem?_toArray, List.getElem?_cons_zero, List.getElem?_cons_succ, Tryd.underlying64, sz9, e0_2, e0_1, e0_5, e0_6, e0_16, e0_17, encPV, g31_0]
    refine ⟨⟨_, rfl⟩, hM _ _ ?_⟩
    clear hM M
    refine pops_do rfl rfl (by simp only [upd_at, Nat.reduceEqDiff, if_true, if_false, e0_2, e0_1, e0_5, e0_6, e0_16, e0_17, encPV, g31_0]) fun M hM => ?_
    simp only [pop, St.eval, constSlot, upd_at, Nat.reduceEqDiff, if_true, if_false, popLoad, loadK, isAggD, List.drop_zero, List.getElem?_toArray, List.getElem?_cons_zero, List.getElem?_cons_succ, Bool.false_eq_true, Tryd.underlying9, sz9, eq_self, true_and, and_true, e0_2, e0_1, e0_5, e0_6, e0_16, e0_17, encPV, g31_0]
    refine hM _ _ ?_
    clear hM M
    refine pops_do rfl rfl (by simp only [upd_at, Nat.reduceEqDiff, if_true, if_false, e0_2, e0_1, e0_5, e0_6, e0_16, e0_17, encPV, g31_0]) fun M hM => ?_
    simp only [pop, St.eval, constSlot, upd_at, Nat.reduceEqDiff, if_true, if_false, popCall, List.toList_toArray, List.map_cons, List.map_nil, svs, List.mapM_cons, List.mapM_nil, Option.bind_eq_bind, Option.bind_some, Option.pure_def, List.append_nil, List.cons_append, List.nil_append, str_size, e0_2, e0_1, e0_5, e0_6, e0_16, e0_17, encPV, g31_0]
    refine PFun.use (encodedC_fun W0 x.forbid c) fun h1 s1 => hM _ _ ?_
    replace s1 := Same.trans (Same.refl _) s1
    clear hM M
    refine pops_to rfl fun M hM => ?_
    simp only [pop, St.eval, constSlot, upd_at, Nat.reduceEqDiff, if_true, if_false, popIf, true_implies, false_implies, Bool.true_eq_false, Bool.false_eq_true, reduceCtorEq, true_and, and_true, e0_2, e0_1, e0_5, e0_6, e0_16, e0_17, encPV, g31_0]
    refine hM _ _ ?_
    clear hM M
    exact pops_done (hJ23 _ _ s1 (wk_same (wk_any ((wk_any ((wk_any ((wk_any (Wk.refl _ _))))))))))
   ·skip
    intro g31_0 J23 hJ23
    simp only [List.take_succ_cons, List.take_zero]
    simp only [anyAt_cons, anyAt_nil] at hJ23
    refine pops_off (b := true) rfl rfl (by simp only [upd_at, Nat.reduceEqDiff, if_true, if_false, e0_2, e0_1, e0_5, e0_6, e0_16, e0_17, encPV, g31_0]) (by decide) ?_
    refine pops_off (b := true) rfl rfl (by simp only [upd_at, Nat.reduceEqDiff, if_true, if_false, e0_2, e0_1, e0_5, e0_6, e0_16, e0_17, encPV, g31_0]) (by decide) ?_
    refine pops_off (b := true) rfl rfl (by simp only [upd_at, Nat.reduceEqDiff, if_true, if_false, e0_2, e0_1, e0_5, e0_6, e0_16, e0_17, encPV, g31_0]) (by decide) ?_
    refine pops_off (b := true) rfl rfl (by simp only [upd_at, Nat.reduceEqDiff, if_true, if_false, e0_2, e0_1, e0_5, e0_6, e0_16, e0_17, encPV, g31_0]) (by decide) ?_
    refine pops_to rfl fun M hM => ?_
    simp only [pop, St.eval, constSlot, upd_at, Nat.reduceEqDiff, if_true, if_false, popIf, true_implies, false_implies, Bool.true_eq_false, Bool.false_eq_true, reduceCtorEq, true_and, and_true, e0_2, e0_1, e0_5, e0_6, e0_16, e0_17, encPV, g31_0]
    refine hM _ _ ?_
    clear hM M
    exact pops_done (hJ23 _ _ (Same.refl _) (wk_same (wk_any ((wk_any ((wk_any ((wk_any (Wk.refl _ _))))))))))
   simp only [List.drop_succ_cons, List.drop_zero, anyAt_cons, anyAt_nil]
   intro hj23 sj23
   replace sj23 := Same.trans sv18 sj23
   refine pops_mv (.inl rfl) rfl (by simp only [St.eval, upd_at, Nat.reduceEqDiff, if_true, if_false, e0_2, e0_1, e0_5, e0_6, e0_16, e0_17, encPV] <;> rfl) ?_
   apply pops_or 12 37 49 [38, 39, 40, 41, 42, 43, 44, 45, 46, 47, 48] (by simp only [upd_at, Nat.reduceEqDiff, if_true, if_false, e0_2, e0_1, e0_5, e0_6, e0_16, e0_17, encPV] <;> rfl)
   ·skip
    intro g37_0 J24 hJ24
    simp only [List.take_succ_cons, List.take_zero]
    simp only [anyAt_cons, anyAt_nil] at hJ24
    refine pops_mvg (.inl rfl) rfl rfl (by simp only [upd_at, Nat.reduceEqDiff, if_true, if_false, e0_2, e0_1, e0_5, e0_6, e0_16, e0_17, encPV, g37_0]) (by simp only [St.eval, upd_at, Nat.reduceEqDiff, if_true, if_false, e0_2, e0_1, e0_5, e0_6, e0_16, e0_17, encPV, g37_0] <;> rfl) ?_
    refine pops_do rfl rfl (by simp only [upd_at, Nat.reduceEqDiff, if_true, if_false, e0_2, e0_1, e0_5, e0_6, e0_16, e0_17, encPV, g37_0]) fun M hM => ?_
    simp only [pop, St.eval, constSlot, upd_at, Nat.reduceEqDiff, if_true, if_false, popBin, binK, intK, strK, eqK, Tryd.underlying3, isPtr, eq_self, true_and, and_true, e0_2, e0_1, e0_5, e0_6, e0_16, e0_17, encPV, g37_0]
    refine hM _ _ ?_
    clear hM M
    refine pops_mvg (.inl rfl) rfl rfl (by simp only [upd_at, Nat.reduceEqDiff, if_true, if_false, e0_2, e0_1, e0_5, e0_6, e0_16, e0_17, encPV, g37_0]) (by simp only [St.eval, upd_at, Nat.reduceEqDiff, if_true, if_false, e0_2, e0_1, e0_5, e0_6, e0_16, e0_17, encPV, g37_0] <;> rfl) ?_
    apply pops_and 8 40 48 [41, 42, 43, 44, 45, 46, 47] (by simp only [upd_at, Nat.reduceEqDiff, if_true, if_false, e0_2, e0_1, e0_5, e0_6, e0_16, e0_17, encPV, g37_0] <;> rfl)
    ·skip
     intro g40_1 J25 hJ25
     simp only [List.take_succ_cons, List.take_zero]
     simp only [anyAt_cons, anyAt_nil] at hJ25
     refine pops_mvg (.inl rfl) rfl rfl (by simp only [upd_at, Nat.reduceEqDiff, if_true, if_false, e0_2, e0_1, e0_5, e0_6, e0_16, e0_17, encPV, g37_0, g40_1]) (by simp only [St.eval, upd_at, Nat.reduceEqDiff, if_true, if_false, e0_2, e0_1, e0_5, e0_6, e0_16, e0_17, encPV, g37_0, g40_1] <;> rfl) ?_
     refine pops_mvg (.inl rfl) rfl rfl (by simp only [upd_at, Nat.reduceEqDiff, if_true, if_false, e0_2, e0_1, e0_5, e0_6, e0_16, e0_17, encPV, g37_0, g40_1]) (by simp only [St.eval, upd_at, Nat.reduceEqDiff, if_true, if_false, e0_2, e0_1, e0_5, e0_6, e0_16, e0_17, encPV, g37_0, g40_1] <;> rfl) ?_
     apply pops_or 5 42 47 [43, 44, 45, 46] (by simp only [upd_at, Nat.reduceEqDiff, if_true, if_false, e0_2, e0_1, e0_5, e0_6, e0_16, e0_17, encPV, g37_0, g40_1] <;> rfl)
     ·skip
      intro g42_2 J26 hJ26
      simp only [List.take_succ_cons, List.take_zero]
      simp only [anyAt_cons, anyAt_nil] at hJ26
      refine pops_mvg (.inl rfl) rfl rfl (by simp only [upd_at, Nat.reduceEqDiff, if_true, if_false, e0_2, e0_1, e0_5, e0_6, e0_16, e0_17, encPV, g37_0, g40_1, g42_2]) (by simp only [St.eval, upd_at, Nat.reduceEqDiff, if_true, if_false, e0_2, e0_1, e0_5, e0_6, e0_16, e0_17, encPV, g37_0, g40_1, g42_2] <;> rfl) ?_
      refine pops_do rfl rfl (by simp only [upd_at, Nat.reduceEqDiff, if_true, if_false, e0_2, e0_1, e0_5, e0_6, e0_16, e0_17, encPV, g37_0, g40_1, g42_2]) fun M hM => ?_
      simp only [pop, St.eval, constSlot, upd_at, Nat.reduceEqDiff, if_true, if_false, popFieldAddr, fieldOf, List.drop_succ_cons, List.drop_zero, List.getElem?_toArray, List.getElem?_cons_zero, List.getElem?_cons_succ, Tryd.underlying64, sz9, e0_2, e0_1, e0_5, e0_6, e0_16, e0_17, encPV, g37_0, g40_1, g42_2]
      refine ⟨⟨_, rfl⟩, hM _ _ ?_⟩
      clear hM M
      refine pops_do rfl rfl (by simp only [upd_at, Nat.reduceEqDiff, if_true, if_false, e0_2, e0_1, e0_5, e0_6, e0_16, e0_17, encPV, g37_0, g40_1, g42_2]) fun M hM => ?_
      simp only [pop, St.eval, constSlot, upd_at, Nat.reduceEqDiff, if_true, if_false, popLoad, loadK, isAggD, List.drop_zero, List.getElem?_toArray, List.getElem?_cons_zero, List.getElem?_cons_succ, Bool.false_eq_true, Tryd.underlying9, sz9, eq_self, true_and, and_true, e0_2, e0_1, e0_5, e0_6, e0_16, e0_17, encPV, g37_0, g40_1, g42_2]
      refine hM _ _ ?_
      clear hM M
      refine pops_do rfl rfl (by simp only [upd_at, Nat.reduceEqDiff, if_true, if_false, e0_2, e0_1, e0_5, e0_6, e0_16, e0_17, encPV, g37_0, g40_1, g42_2]) fun M hM => ?_
      simp only [pop, St.eval, constSlot, upd_at, Nat.reduceEqDiff, if_true, if_false, popCall, List.toList_toArray, List.map_cons, List.map_nil, svs, List.mapM_cons, List.mapM_nil, Option.bind_eq_bind, Option.bind_some, Option.pure_def, List.append_nil, List.cons_append, List.nil_append, str_size, e0_2, e0_1, e0_5, e0_6, e0_16, e0_17, encPV, g37_0, g40_1, g42_2]
      refine PFun.use (encodedC_fun W0 x.head c) fun h2 s2 => hM _ _ ?_
      replace s2 := Same.trans (Same.refl _) s2
      clear hM M
      refine pops_do rfl rfl (by simp only [upd_at, Nat.reduceEqDiff, if_true, if_false, e0_2, e0_1, e0_5, e0_6, e0_16, e0_17, encPV, g37_0, g40_1, g42_2]) fun M hM => ?_
      simp only [pop, St.eval, constSlot, upd_at, Nat.reduceEqDiff, if_true, if_false, popIf, true_implies, false_implies, Bool.true_eq_false, Bool.false_eq_true, reduceCtorEq, true_and, and_true, e0_2, e0_1, e0_5, e0_6, e0_16, e0_17, encPV, g37_0, g40_1, g42_2]
      refine hM _ _ ?_
      clear hM M
      exact pops_done (hJ26 _ _ s2 (wk_same (wk_any ((wk_any ((wk_any ((wk_any (Wk.refl _ _))))))))))
     ·skip
      intro g42_2 J26 hJ26
      simp only [List.take_succ_cons, List.take_zero]
      simp only [anyAt_cons, anyAt_nil] at hJ26
      refine pops_off (b := true) rfl rfl (by simp only [upd_at, Nat.reduceEqDiff, if_true, if_false, e0_2, e0_1, e0_5, e0_6, e0_16, e0_17, encPV, g37_0, g40_1, g42_2]) (by decide) ?_
      refine pops_off (b := true) rfl rfl (by simp only [upd_at, Nat.reduceEqDiff, if_true, if_false, e0_2, e0_1, e0_5, e0_6, e0_16, e0_17, encPV, g37_0, g40_1, g42_2]) (by decide) ?_
      refine pops_off (b := true) rfl rfl (by simp only [upd_at, Nat.reduceEqDiff, if_true, if_false, e0_2, e0_1, e0_5, e0_6, e0_16, e0_17, encPV, g37_0, g40_1, g42_2]) (by decide) ?_
      refine pops_off (b := true) rfl rfl (by simp only [upd_at, Nat.reduceEqDiff, if_true, if_false, e0_2, e0_1, e0_5, e0_6, e0_16, e0_17, encPV, g37_0, g40_1, g42_2]) (by decide) ?_
      refine pops_do rfl rfl (by simp only [upd_at, Nat.reduceEqDiff, if_true, if_false, e0_2, e0_1, e0_5, e0_6, e0_16, e0_17, encPV, g37_0, g40_1, g42_2]) fun M hM => ?_
      simp only [pop, St.eval, constSlot, upd_at, Nat.reduceEqDiff, if_true, if_false, popIf, true_implies, false_implies, Bool.true_eq_false, Bool.false_eq_true, reduceCtorEq, true_and, and_true, e0_2, e0_1, e0_5, e0_6, e0_16, e0_17, encPV, g37_0, g40_1, g42_2]
      refine hM _ _ ?_
      clear hM M
      exact pops_done (hJ26 _ _ (Same.refl _) (wk_same (wk_any ((wk_any ((wk_any ((wk_any (Wk.refl _ _))))))))))
     simp only [List.drop_succ_cons, List.drop_zero, anyAt_cons, anyAt_nil]
     intro hj26 sj26
     refine pops_do rfl rfl (by simp only [upd_at, Nat.reduceEqDiff, if_true, if_false, e0_2, e0_1, e0_5, e0_6, e0_16, e0_17, encPV, g37_0, g40_1]) fun M hM => ?_
     simp only [pop, St.eval, constSlot, upd_at, Nat.reduceEqDiff, if_true, if_false, popIf, true_implies, false_implies, Bool.true_eq_false, Bool.false_eq_true, reduceCtorEq, true_and, and_true, e0_2, e0_1, e0_5, e0_6, e0_16, e0_17, encPV, g37_0, g40_1]
     refine hM _ _ ?_
     clear hM M
     exact pops_done (hJ25 _ _ sj26 (wk_same (wk_any ((wk_any ((wk_any ((wk_any ((wk_any ((wk_any ((wk_any (Wk.refl _ _))))))))))))))))
    ·skip
     intro g40_1 J25 hJ25
     simp only [List.take_succ_cons, List.take_zero]
     simp only [anyAt_cons, anyAt_nil] at hJ25
     refine pops_off (b := false) rfl rfl (by simp only [upd_at, Nat.reduceEqDiff, if_true, if_false, e0_2, e0_1, e0_5, e0_6, e0_16, e0_17, encPV, g37_0, g40_1]) (by decide) ?_
     refine pops_off (b := false) rfl rfl (by simp only [upd_at, Nat.reduceEqDiff, if_true, if_false, e0_2, e0_1, e0_5, e0_6, e0_16, e0_17, encPV, g37_0, g40_1]) (by decide) ?_
     refine pops_off0 rfl rfl (by simp only [upd_at, Nat.reduceEqDiff, if_true, if_false, e0_2, e0_1, e0_5, e0_6, e0_16, e0_17, encPV, g37_0, g40_1]) ?_
     refine pops_off0 rfl rfl (by simp only [upd_at, Nat.reduceEqDiff, if_true, if_false, e0_2, e0_1, e0_5, e0_6, e0_16, e0_17, encPV, g37_0, g40_1]) ?_
     refine pops_off0 rfl rfl (by simp only [upd_at, Nat.reduceEqDiff, if_true, if_false, e0_2, e0_1, e0_5, e0_6, e0_16, e0_17, encPV, g37_0, g40_1]) ?_
     refine pops_off0 rfl rfl (by simp only [upd_at, Nat.reduceEqDiff, if_true, if_false, e0_2, e0_1, e0_5, e0_6, e0_16, e0_17, encPV, g37_0, g40_1]) ?_
     refine pops_off (b := false) rfl rfl (by simp only [upd_at, Nat.reduceEqDiff, if_true, if_false, e0_2, e0_1, e0_5, e0_6, e0_16, e0_17, encPV, g37_0, g40_1]) (by decide) ?_
     refine pops_do rfl rfl (by simp only [upd_at, Nat.reduceEqDiff, if_true, if_false, e0_2, e0_1, e0_5, e0_6, e0_16, e0_17, encPV, g37_0, g40_1]) fun M hM => ?_
     simp only [pop, St.eval, constSlot, upd_at, Nat.reduceEqDiff, if_true, if_false, popIf, true_implies, false_implies, Bool.true_eq_false, Bool.false_eq_true, reduceCtorEq, true_and, and_true, e0_2, e0_1, e0_5, e0_6, e0_16, e0_17, encPV, g37_0, g40_1]
     refine hM _ _ ?_
     clear hM M
     exact pops_done (hJ25 _ _ (Same.refl _) (wk_same (wk_any ((wk_any ((wk_any ((wk_any ((wk_any ((wk_any ((wk_any (Wk.refl _ _))))))))))))))))
    simp only [List.drop_succ_cons, List.drop_zero, anyAt_cons, anyAt_nil]
    intro hj25 sj25
    refine pops_to rfl fun M hM => ?_
    simp only [pop, St.eval, constSlot, upd_at, Nat.reduceEqDiff, if_true, if_false, popIf, true_implies, false_implies, Bool.true_eq_false, Bool.false_eq_true, reduceCtorEq, true_and, and_true, e0_2, e0_1, e0_5, e0_6, e0_16, e0_17, encPV, g37_0]
    refine hM _ _ ?_
    clear hM M
    exact pops_done (hJ24 _ _ sj25 (wk_same (wk_any ((wk_any ((wk_any ((wk_any ((wk_any ((wk_any ((wk_any ((wk_any ((wk_any ((wk_any ((wk_any (Wk.refl _ _))))))))))))))))))))))))
   ·skip
    intro g37_0 J24 hJ24
    simp only [List.take_succ_cons, List.take_zero]
    simp only [anyAt_cons, anyAt_nil] at hJ24
    refine pops_off (b := true) rfl rfl (by simp only [upd_at, Nat.reduceEqDiff, if_true, if_false, e0_2, e0_1, e0_5, e0_6, e0_16, e0_17, encPV, g37_0]) (by decide) ?_
    refine pops_off (b := true) rfl rfl (by simp only [upd_at, Nat.reduceEqDiff, if_true, if_false, e0_2, e0_1, e0_5, e0_6, e0_16, e0_17, encPV, g37_0]) (by decide) ?_
    refine pops_off (b := true) rfl rfl (by simp only [upd_at, Nat.reduceEqDiff, if_true, if_false, e0_2, e0_1, e0_5, e0_6, e0_16, e0_17, encPV, g37_0]) (by decide) ?_
    refine pops_off0 rfl rfl (by simp only [upd_at, Nat.reduceEqDiff, if_true, if_false, e0_2, e0_1, e0_5, e0_6, e0_16, e0_17, encPV, g37_0]) ?_
    refine pops_off0 rfl rfl (by simp only [upd_at, Nat.reduceEqDiff, if_true, if_false, e0_2, e0_1, e0_5, e0_6, e0_16, e0_17, encPV, g37_0]) ?_
    refine pops_off0 rfl rfl (by simp only [upd_at, Nat.reduceEqDiff, if_true, if_false, e0_2, e0_1, e0_5, e0_6, e0_16, e0_17, encPV, g37_0]) ?_
    refine pops_off0 rfl rfl (by simp only [upd_at, Nat.reduceEqDiff, if_true, if_false, e0_2, e0_1, e0_5, e0_6, e0_16, e0_17, encPV, g37_0]) ?_
    refine pops_off0 rfl rfl (by simp only [upd_at, Nat.reduceEqDiff, if_true, if_false, e0_2, e0_1, e0_5, e0_6, e0_16, e0_17, encPV, g37_0]) ?_
    refine pops_off0 rfl rfl (by simp only [upd_at, Nat.reduceEqDiff, if_true, if_false, e0_2, e0_1, e0_5, e0_6, e0_16, e0_17, encPV, g37_0]) ?_
    refine pops_off0 rfl rfl (by simp only [upd_at, Nat.reduceEqDiff, if_true, if_false, e0_2, e0_1, e0_5, e0_6, e0_16, e0_17, encPV, g37_0]) ?_
    refine pops_off (b := true) rfl rfl (by simp only [upd_at, Nat.reduceEqDiff, if_true, if_false, e0_2, e0_1, e0_5, e0_6, e0_16, e0_17, encPV, g37_0]) (by decide) ?_
    refine pops_to rfl fun M hM => ?_
    simp only [pop, St.eval, constSlot, upd_at, Nat.reduceEqDiff, if_true, if_false, popIf, true_implies, false_implies, Bool.true_eq_false, Bool.false_eq_true, reduceCtorEq, true_and, and_true, e0_2, e0_1, e0_5, e0_6, e0_16, e0_17, encPV, g37_0]
    refine hM _ _ ?_
    clear hM M
    exact pops_done (hJ24 _ _ (Same.refl _) (wk_same (wk_any ((wk_any ((wk_any ((wk_any ((wk_any ((wk_any ((wk_any ((wk_any ((wk_any ((wk_any ((wk_any (Wk.refl _ _))))))))))))))))))))))))
   simp only [List.drop_succ_cons, List.drop_zero, anyAt_cons, anyAt_nil]
   intro hj24 sj24
   replace sj24 := Same.trans sj23 sj24
   refine pops_mv (.inl rfl) rfl (by simp only [St.eval, upd_at, Nat.reduceEqDiff, if_true, if_false, e0_2, e0_1, e0_5, e0_6, e0_16, e0_17, encPV] <;> rfl) ?_
   apply pops_or 12 50 62 [51, 52, 53, 54, 55, 56, 57, 58, 59, 60, 61] (by simp only [upd_at, Nat.reduceEqDiff, if_true, if_false, e0_2, e0_1, e0_5, e0_6, e0_16, e0_17, encPV] <;> rfl)
   ·skip
    intro g50_0 J27 hJ27
    simp only [List.take_succ_cons, List.take_zero]
    simp only [anyAt_cons, anyAt_nil] at hJ27
    refine pops_mvg (.inl rfl) rfl rfl (by simp only [upd_at, Nat.reduceEqDiff, if_true, if_false, e0_2, e0_1, e0_5, e0_6, e0_16, e0_17, encPV, g50_0]) (by simp only [St.eval, upd_at, Nat.reduceEqDiff, if_true, if_false, e0_2, e0_1, e0_5, e0_6, e0_16, e0_17, encPV, g50_0] <;> rfl) ?_
    refine pops_mvg (.inl rfl) rfl rfl (by simp only [upd_at, Nat.reduceEqDiff, if_true, if_false, e0_2, e0_1, e0_5, e0_6, e0_16, e0_17, encPV, g50_0]) (by simp only [St.eval, upd_at, Nat.reduceEqDiff, if_true, if_false, e0_2, e0_1, e0_5, e0_6, e0_16, e0_17, encPV, g50_0] <;> rfl) ?_
    refine pops_do rfl rfl (by simp only [upd_at, Nat.reduceEqDiff, if_true, if_false, e0_2, e0_1, e0_5, e0_6, e0_16, e0_17, encPV, g50_0]) fun M hM => ?_
    simp only [pop, St.eval, constSlot, upd_at, Nat.reduceEqDiff, if_true, if_false, popCall, List.toList_toArray, List.map_cons, List.map_nil, popBuiltin, popLen, lenOfSlot, List.length_map, Tryd.underlying9, eq_self, true_and, and_true, str_list, str_size, str_app, str_cut, str_get, e0_2, e0_1, e0_5, e0_6, e0_16, e0_17, encPV, g50_0]
    refine hM _ _ ?_
    clear hM M
    refine pops_do rfl rfl (by simp only [upd_at, Nat.reduceEqDiff, if_true, if_false, e0_2, e0_1, e0_5, e0_6, e0_16, e0_17, encPV, g50_0]) fun M hM => ?_
    simp only [pop, St.eval, constSlot, upd_at, Nat.reduceEqDiff, if_true, if_false, popBin, binK, intK, strK, eqK, eq_self, true_and, and_true, e0_2, e0_1, e0_5, e0_6, e0_16, e0_17, encPV, g50_0, hwl]
    refine hM _ _ ?_
    clear hM M
    refine pops_do rfl rfl (by simp only [upd_at, Nat.reduceEqDiff, if_true, if_false, e0_2, e0_1, e0_5, e0_6, e0_16, e0_17, encPV, g50_0]) fun M hM => ?_
    simp only [pop, St.eval, constSlot, upd_at, Nat.reduceEqDiff, if_true, if_false, popBin, binK, intK, strK, eqK, Tryd.underlying3, isPtr, eq_self, true_and, and_true, e0_2, e0_1, e0_5, e0_6, e0_16, e0_17, encPV, g50_0]
    refine hM _ _ ?_
    clear hM M
    refine pops_mvg (.inl rfl) rfl rfl (by simp only [upd_at, Nat.reduceEqDiff, if_true, if_false, e0_2, e0_1, e0_5, e0_6, e0_16, e0_17, encPV, g50_0]) (by simp only [St.eval, upd_at, Nat.reduceEqDiff, if_true, if_false, e0_2, e0_1, e0_5, e0_6, e0_16, e0_17, encPV, g50_0] <;> rfl) ?_
    apply pops_and 5 56 61 [57, 58, 59, 60] (by simp only [upd_at, Nat.reduceEqDiff, if_true, if_false, e0_2, e0_1, e0_5, e0_6, e0_16, e0_17, encPV, g50_0] <;> rfl)
    ·skip
     intro g56_1 J28 hJ28
     simp only [List.take_succ_cons, List.take_zero]
     simp only [anyAt_cons, anyAt_nil] at hJ28
     refine pops_mvg (.inl rfl) rfl rfl (by simp only [upd_at, Nat.reduceEqDiff, if_true, if_false, e0_2, e0_1, e0_5, e0_6, e0_16, e0_17, encPV, g50_0, g56_1]) (by simp only [St.eval, upd_at, Nat.reduceEqDiff, if_true, if_false, e0_2, e0_1, e0_5, e0_6, e0_16, e0_17, encPV, g50_0, g56_1] <;> rfl) ?_
     refine pops_do rfl rfl (by simp only [upd_at, Nat.reduceEqDiff, if_true, if_false, e0_2, e0_1, e0_5, e0_6, e0_16, e0_17, encPV, g50_0, g56_1]) fun M hM => ?_
     simp only [pop, St.eval, constSlot, upd_at, Nat.reduceEqDiff, if_true, if_false, popFieldAddr, fieldOf, List.drop_succ_cons, List.drop_zero, List.getElem?_toArray, List.getElem?_cons_zero, List.getElem?_cons_succ, Tryd.underlying64, sz9, e0_2, e0_1, e0_5, e0_6, e0_16, e0_17, encPV, g50_0, g56_1]
     refine ⟨⟨_, rfl⟩, hM _ _ ?_⟩
     clear hM M
     refine pops_do rfl rfl (by simp only [upd_at, Nat.reduceEqDiff, if_true, if_false, e0_2, e0_1, e0_5, e0_6, e0_16, e0_17, encPV, g50_0, g56_1]) fun M hM => ?_
     simp only [pop, St.eval, constSlot, upd_at, Nat.reduceEqDiff, if_true, if_false, popLoad, loadK, isAggD, List.drop_zero, List.getElem?_toArray, List.getElem?_cons_zero, List.getElem?_cons_succ, Bool.false_eq_true, Tryd.underlying9, sz9, eq_self, true_and, and_true, e0_2, e0_1, e0_5, e0_6, e0_16, e0_17, encPV, g50_0, g56_1]
     refine hM _ _ ?_
     clear hM M
     refine pops_do rfl rfl (by simp only [upd_at, Nat.reduceEqDiff, if_true, if_false, e0_2, e0_1, e0_5, e0_6, e0_16, e0_17, encPV, g50_0, g56_1]) fun M hM => ?_
     simp only [pop, St.eval, constSlot, upd_at, Nat.reduceEqDiff, if_true, if_false, popCall, List.toList_toArray, List.map_cons, List.map_nil, svs, List.mapM_cons, List.mapM_nil, Option.bind_eq_bind, Option.bind_some, Option.pure_def, List.append_nil, List.cons_append, List.nil_append, str_size, e0_2, e0_1, e0_5, e0_6, e0_16, e0_17, encPV, g50_0, g56_1]
     refine PFun.use (encodedC_fun W0 x.tail c) fun h3 s3 => hM _ _ ?_
     replace s3 := Same.trans (Same.refl _) s3
     clear hM M
     refine pops_do rfl rfl (by simp only [upd_at, Nat.reduceEqDiff, if_true, if_false, e0_2, e0_1, e0_5, e0_6, e0_16, e0_17, encPV, g50_0, g56_1]) fun M hM => ?_
     simp only [pop, St.eval, constSlot, upd_at, Nat.reduceEqDiff, if_true, if_false, popIf, true_implies, false_implies, Bool.true_eq_false, Bool.false_eq_true, reduceCtorEq, true_and, and_true, e0_2, e0_1, e0_5, e0_6, e0_16, e0_17, encPV, g50_0, g56_1]
     refine hM _ _ ?_
     clear hM M
     exact pops_done (hJ28 _ _ s3 (wk_same (wk_any ((wk_any ((wk_any ((wk_any (Wk.refl _ _))))))))))
    ·skip
     intro g56_1 J28 hJ28
     simp only [List.take_succ_cons, List.take_zero]
     simp only [anyAt_cons, anyAt_nil] at hJ28
     refine pops_off (b := false) rfl rfl (by simp only [upd_at, Nat.reduceEqDiff, if_true, if_false, e0_2, e0_1, e0_5, e0_6, e0_16, e0_17, encPV, g50_0, g56_1]) (by decide) ?_
     refine pops_off (b := false) rfl rfl (by simp only [upd_at, Nat.reduceEqDiff, if_true, if_false, e0_2, e0_1, e0_5, e0_6, e0_16, e0_17, encPV, g50_0, g56_1]) (by decide) ?_
     refine pops_off (b := false) rfl rfl (by simp only [upd_at, Nat.reduceEqDiff, if_true, if_false, e0_2, e0_1, e0_5, e0_6, e0_16, e0_17, encPV, g50_0, g56_1]) (by decide) ?_
     refine pops_off (b := false) rfl rfl (by simp only [upd_at, Nat.reduceEqDiff, if_true, if_false, e0_2, e0_1, e0_5, e0_6, e0_16, e0_17, encPV, g50_0, g56_1]) (by decide) ?_
     refine pops_do rfl rfl (by simp only [upd_at, Nat.reduceEqDiff, if_true, if_false, e0_2, e0_1, e0_5, e0_6, e0_16, e0_17, encPV, g50_0, g56_1]) fun M hM => ?_
     simp only [pop, St.eval, constSlot, upd_at, Nat.reduceEqDiff, if_true, if_false, popIf, true_implies, false_implies, Bool.true_eq_false, Bool.false_eq_true, reduceCtorEq, true_and, and_true, e0_2, e0_1, e0_5, e0_6, e0_16, e0_17, encPV, g50_0, g56_1]
     refine hM _ _ ?_
     clear hM M
     exact pops_done (hJ28 _ _ (Same.refl _) (wk_same (wk_any ((wk_any ((wk_any ((wk_any (Wk.refl _ _))))))))))
    simp only [List.drop_succ_cons, List.drop_zero, anyAt_cons, anyAt_nil]
    intro hj28 sj28
    refine pops_to rfl fun M hM => ?_
    simp only [pop, St.eval, constSlot, upd_at, Nat.reduceEqDiff, if_true, if_false, popIf, true_implies, false_implies, Bool.true_eq_false, Bool.false_eq_true, reduceCtorEq, true_and, and_true, e0_2, e0_1, e0_5, e0_6, e0_16, e0_17, encPV, g50_0]
    refine hM _ _ ?_
    clear hM M
    exact pops_done (hJ27 _ _ sj28 (wk_same (wk_any ((wk_any ((wk_any ((wk_any ((wk_any ((wk_any ((wk_any ((wk_any ((wk_any ((wk_any ((wk_any (Wk.refl _ _))))))))))))))))))))))))
   ·skip
    intro g50_0 J27 hJ27
    simp only [List.take_succ_cons, List.take_zero]
    simp only [anyAt_cons, anyAt_nil] at hJ27
    refine pops_off (b := true) rfl rfl (by simp only [upd_at, Nat.reduceEqDiff, if_true, if_false, e0_2, e0_1, e0_5, e0_6, e0_16, e0_17, encPV, g50_0]) (by decide) ?_
    refine pops_off (b := true) rfl rfl (by simp only [upd_at, Nat.reduceEqDiff, if_true, if_false, e0_2, e0_1, e0_5, e0_6, e0_16, e0_17, encPV, g50_0]) (by decide) ?_
    refine pops_off (b := true) rfl rfl (by simp only [upd_at, Nat.reduceEqDiff, if_true, if_false, e0_2, e0_1, e0_5, e0_6, e0_16, e0_17, encPV, g50_0]) (by decide) ?_
    refine pops_off (b := true) rfl rfl (by simp only [upd_at, Nat.reduceEqDiff, if_true, if_false, e0_2, e0_1, e0_5, e0_6, e0_16, e0_17, encPV, g50_0]) (by decide) ?_
    refine pops_off (b := true) rfl rfl (by simp only [upd_at, Nat.reduceEqDiff, if_true, if_false, e0_2, e0_1, e0_5, e0_6, e0_16, e0_17, encPV, g50_0]) (by decide) ?_
    refine pops_off (b := true) rfl rfl (by simp only [upd_at, Nat.reduceEqDiff, if_true, if_false, e0_2, e0_1, e0_5, e0_6, e0_16, e0_17, encPV, g50_0]) (by decide) ?_
    refine pops_off0 rfl rfl (by simp only [upd_at, Nat.reduceEqDiff, if_true, if_false, e0_2, e0_1, e0_5, e0_6, e0_16, e0_17, encPV, g50_0]) ?_
    refine pops_off0 rfl rfl (by simp only [upd_at, Nat.reduceEqDiff, if_true, if_false, e0_2, e0_1, e0_5, e0_6, e0_16, e0_17, encPV, g50_0]) ?_
    refine pops_off0 rfl rfl (by simp only [upd_at, Nat.reduceEqDiff, if_true, if_false, e0_2, e0_1, e0_5, e0_6, e0_16, e0_17, encPV, g50_0]) ?_
    refine pops_off0 rfl rfl (by simp only [upd_at, Nat.reduceEqDiff, if_true, if_false, e0_2, e0_1, e0_5, e0_6, e0_16, e0_17, encPV, g50_0]) ?_
    refine pops_off (b := true) rfl rfl (by simp only [upd_at, Nat.reduceEqDiff, if_true, if_false, e0_2, e0_1, e0_5, e0_6, e0_16, e0_17, encPV, g50_0]) (by decide) ?_
    refine pops_to rfl fun M hM => ?_
    simp only [pop, St.eval, constSlot, upd_at, Nat.reduceEqDiff, if_true, if_false, popIf, true_implies, false_implies, Bool.true_eq_false, Bool.false_eq_true, reduceCtorEq, true_and, and_true, e0_2, e0_1, e0_5, e0_6, e0_16, e0_17, encPV, g50_0]
    refine hM _ _ ?_
    clear hM M
    exact pops_done (hJ27 _ _ (Same.refl _) (wk_same (wk_any ((wk_any ((wk_any ((wk_any ((wk_any ((wk_any ((wk_any ((wk_any ((wk_any ((wk_any ((wk_any (Wk.refl _ _))))))))))))))))))))))))
   simp only [List.drop_succ_cons, List.drop_zero, anyAt_cons, anyAt_nil]
   intro hj27 sj27
   replace sj27 := Same.trans sj24 sj27
   refine pops_mv (.inr rfl) rfl (by simp only [St.eval, upd_at, Nat.reduceEqDiff, if_true, if_false, e0_2, e0_1, e0_5, e0_6, e0_16, e0_17, encPV] <;> rfl) ?_
   refine pops_done (hR22 _ ?_)
   clear hR22 R22
   try simp only [thenK, scopeK]
   refine hN21 _ ?_
   clear hN21 N21
   refine pwp_cond (by simp only [St.eval, upd_at, Nat.reduceEqDiff, if_true, if_false, e0_2, e0_1, e0_5, e0_6, e0_16, e0_17, encPV] <;> rfl) (fun c28 => ?_) (fun c28 => ?_)
   ·skip
    rw [u8_37, escB_ref] at c28
    have he := encAt_esc hi c28
    refine pwp_dreg 8 mixed (by decide +kernel) fun R29 hR29 => ?_
    simp only [List.take_succ_cons, List.take_zero, List.drop_succ_cons, List.drop_zero]
    apply lex_to
    · rfl
    ·intro h' s' M hM
     simp only [pop, St.eval, constSlot, upd_at, Nat.reduceEqDiff, if_true, if_false, eq_self, true_and, and_true, str_list, str_size, str_app, str_cut, str_get, e0_2, e0_1, e0_5, e0_6, e0_16, e0_17, encPV, s'.1]
     exact hM _ (.refl _)
    apply lex_to
    · rfl
    ·intro h' s' M hM
     simp only [pop, St.eval, constSlot, upd_at, Nat.reduceEqDiff, if_true, if_false, popLoad, loadK, isAggD, List.drop_zero, List.getElem?_toArray, List.getElem?_cons_zero, List.getElem?_cons_succ, Bool.false_eq_true, Tryd.underlying5, sz5, eq_self, true_and, and_true, e0_2, e0_1, e0_5, e0_6, e0_16, e0_17, encPV, s'.1]
     exact hM _ (.refl _)
    apply lex_to
    · rfl
    ·intro h' s' M hM
     simp only [pop, St.eval, constSlot, upd_at, Nat.reduceEqDiff, if_true, if_false, popBin, binK, intK, strK, eqK, eq_self, true_and, and_true, e0_2, e0_1, e0_5, e0_6, e0_16, e0_17, encPV, shr4, s'.1]
     refine ⟨by decide, ?_⟩
     exact hM _ (.refl _)
    apply lex_to
    · rfl
    ·intro h' s' M hM
     simp only [pop, St.eval, constSlot, upd_at, Nat.reduceEqDiff, if_true, if_false, popIndex, partK, Tryd.underlying9, eq_self, true_and, and_true, str_list, str_size, str_app, str_cut, str_get, e0_2, e0_1, e0_5, e0_6, e0_16, e0_17, encPV, hexAt1, Int.toNat_natCast, s'.1]
     refine ⟨Int.natCast_nonneg _, ?_⟩
     exact hM _ (.refl _)
    apply lex_to
    · rfl
    ·intro h' s' M hM
     simp only [pop, St.eval, constSlot, upd_at, Nat.reduceEqDiff, if_true, if_false, popLoad, loadK, isAggD, List.drop_zero, List.getElem?_toArray, List.getElem?_cons_zero, List.getElem?_cons_succ, Bool.false_eq_true, Tryd.underlying5, sz5, eq_self, true_and, and_true, e0_2, e0_1, e0_5, e0_6, e0_16, e0_17, encPV, s'.1]
     exact hM _ (.refl _)
    apply lex_to
    · rfl
    ·intro h' s' M hM
     simp only [pop, St.eval, constSlot, upd_at, Nat.reduceEqDiff, if_true, if_false, popBin, binK, intK, strK, eqK, eq_self, true_and, and_true, e0_2, e0_1, e0_5, e0_6, e0_16, e0_17, encPV, and15, s'.1]
     exact hM _ (.refl _)
    apply lex_to
    · rfl
    ·intro h' s' M hM
     simp only [pop, St.eval, constSlot, upd_at, Nat.reduceEqDiff, if_true, if_false, popIndex, partK, Tryd.underlying9, eq_self, true_and, and_true, str_list, str_size, str_app, str_cut, str_get, e0_2, e0_1, e0_5, e0_6, e0_16, e0_17, encPV, hexAt2, Int.toNat_natCast, s'.1]
     refine ⟨Int.natCast_nonneg _, ?_⟩
     exact hM _ (.refl _)
    apply lex_to
    · rfl
    ·intro h' s' M hM
     simp only [pop, St.eval, constSlot, upd_at, Nat.reduceEqDiff, if_true, if_false, popBuildSlice, slotCells, List.toList_toArray, List.map_cons, List.map_nil, List.mapM_cons, List.mapM_nil, Option.bind_eq_bind, Option.bind_some, Option.pure_def, Tryd.underlying73, sz5, ze5, by5, eq_self, true_and, and_true, str_list, str_size, str_app, str_cut, str_get, e0_2, e0_1, e0_5, e0_6, e0_16, e0_17, encPV, s'.1]
     exact ⟨by decide, by decide, rfl, rfl, by simp, by decide, rfl, hM _ (.refl _)⟩
    refine lex_done fun hq2 sq2 => ?_
    replace sq2 := Same.trans sj27 sq2
    refine pops_to rfl fun M hM => ?_
    simp only [pop, St.eval, constSlot, upd_at, Nat.reduceEqDiff, if_true, if_false, popCall, List.toList_toArray, List.map_cons, List.map_nil, popBuiltin, eq_self, true_and, and_true, str_list, str_size, str_app, str_cut, str_get, e0_2, e0_1, e0_5, e0_6, e0_16, e0_17, encPV]
    refine row_app (ys := ([37, hexC (c.toNat / 16), hexC (c.toNat % 16)] : List UInt8).map byteCell) hb Tryd.underlying73 sz5 by5 ze5 rfl (by decide) (ho.same sq2) (hk0.trans (Same.keeps sq2)) rfl (.inr rfl) ⟨by simp; omega, by simp; omega⟩ fun sl2 hp2 ho2 hk2 => hM _ _ ?_
    clear hM M
    refine pops_mv (.inr rfl) rfl (by simp only [St.eval, upd_at, Nat.reduceEqDiff, if_true, if_false, e0_2, e0_1, e0_5, e0_6, e0_16, e0_17, encPV] <;> rfl) ?_
    refine pops_done (hR29 _ ?_)
    clear hR29 R29
    try simp only [blockK, thenK, scopeK]
    try simp only [blockK, thenK, scopeK]
    try simp only [thenK, scopeK]
    refine hN13 _ ?_
    clear hN13 N13
    refine pwp_reg fun R30 hR30 => ?_
    refine pops_to rfl fun M hM => ?_
    simp only [pop, St.eval, constSlot, upd_at, Nat.reduceEqDiff, if_true, if_false, popBin, binK, intK, strK, eqK, eq_self, true_and, and_true, e0_2, e0_1, e0_5, e0_6, e0_16, e0_17, encPV]
    refine hM _ _ ?_
    clear hM M
    refine pops_mv (.inl rfl) rfl (by simp only [St.eval, upd_at, Nat.reduceEqDiff, if_true, if_false, e0_2, e0_1, e0_5, e0_6, e0_16, e0_17, encPV] <;> rfl) ?_
    refine pops_done (hR30 _ ?_)
    clear hR30 R30
    try simp only [thenK, scopeK]
    exact ⟨_, by omega, _, .refl _ _, i + 1, sl2, out ++ [37, hexC (c.toNat / 16), hexC (c.toNat % 16)], rfl, by omega, encFrom_step hx he hx0_1, by simp; omega, ⟨hk2, by rw [List.map_append]; exact ho2⟩, by simp only [upd_at, Nat.reduceEqDiff, if_true, if_false, e0_2, e0_1, e0_5, e0_6, e0_16, e0_17, encPV], by simp only [upd_at, Nat.reduceEqDiff, if_true, if_false, e0_2, e0_1, e0_5, e0_6, e0_16, e0_17, encPV], by simp only [upd_at, Nat.reduceEqDiff, if_true, if_false, e0_2, e0_1, e0_5, e0_6, e0_16, e0_17, encPV], by simp only [upd_at, Nat.reduceEqDiff, if_true, if_false, e0_2, e0_1, e0_5, e0_6, e0_16, e0_17, encPV], by simp only [upd_at, Nat.reduceEqDiff, if_true, if_false, e0_2, e0_1, e0_5, e0_6, e0_16, e0_17, encPV], by simp only [upd_at, Nat.reduceEqDiff, if_true, if_false, e0_17]; rw [wrap_succ (by omega)]⟩
   ·skip
    rw [u8_37, escB_ref] at c28
    have hesc := c28
    refine pwp_then fun N31 hN31 => ?_
    refine pwp_reg fun R32 hR32 => ?_
    refine pops_to rfl fun M hM => ?_
    simp only [pop, St.eval, constSlot, upd_at, Nat.reduceEqDiff, if_true, if_false, popFieldAddr, fieldOf, List.drop_succ_cons, List.drop_zero, List.getElem?_toArray, List.getElem?_cons_zero, List.getElem?_cons_succ, Tryd.underlying64, sz4, e0_2, e0_1, e0_5, e0_6, e0_16, e0_17, encPV]
    refine ⟨⟨_, rfl⟩, hM _ _ ?_⟩
    clear hM M
    refine pops_to rfl fun M hM => ?_
    simp only [pop, St.eval, constSlot, upd_at, Nat.reduceEqDiff, if_true, if_false, popLoad, loadK, isAggD, List.drop_zero, List.getElem?_toArray, List.getElem?_cons_zero, List.getElem?_cons_succ, Bool.false_eq_true, Tryd.underlying4, sz4, eq_self, true_and, and_true, e0_2, e0_1, e0_5, e0_6, e0_16, e0_17, encPV]
    refine hM _ _ ?_
    clear hM M
    refine pops_mv (.inl rfl) rfl (by simp only [St.eval, upd_at, Nat.reduceEqDiff, if_true, if_false, e0_2, e0_1, e0_5, e0_6, e0_16, e0_17, encPV] <;> rfl) ?_
    apply pops_and0 3 75 78 [76, 77] (by simp only [upd_at, Nat.reduceEqDiff, if_true, if_false, e0_2, e0_1, e0_5, e0_6, e0_16, e0_17, encPV] <;> rfl)
    ·skip
     intro g75_0 J33 hJ33
     simp only [List.take_succ_cons, List.take_zero]
     simp only [anyAt_cons, anyAt_nil] at hJ33
     refine pops_do rfl rfl (by simp only [upd_at, Nat.reduceEqDiff, if_true, if_false, e0_2, e0_1, e0_5, e0_6, e0_16, e0_17, encPV, g75_0]) fun M hM => ?_
     simp only [pop, St.eval, constSlot, upd_at, Nat.reduceEqDiff, if_true, if_false, popLoad, loadK, isAggD, List.drop_zero, List.getElem?_toArray, List.getElem?_cons_zero, List.getElem?_cons_succ, Bool.false_eq_true, Tryd.underlying5, sz5, eq_self, true_and, and_true, e0_2, e0_1, e0_5, e0_6, e0_16, e0_17, encPV, g75_0]
     refine hM _ _ ?_
     clear hM M
     refine pops_do rfl rfl (by simp only [upd_at, Nat.reduceEqDiff, if_true, if_false, e0_2, e0_1, e0_5, e0_6, e0_16, e0_17, encPV, g75_0]) fun M hM => ?_
     simp only [pop, St.eval, constSlot, upd_at, Nat.reduceEqDiff, if_true, if_false, popBin, binK, intK, strK, eqK, Tryd.underlying5, isPtr, eq_self, true_and, and_true, e0_2, e0_1, e0_5, e0_6, e0_16, e0_17, encPV, g75_0]
     refine hM _ _ ?_
     clear hM M
     refine pops_to rfl fun M hM => ?_
     simp only [pop, St.eval, constSlot, upd_at, Nat.reduceEqDiff, if_true, if_false, popIf, true_implies, false_implies, Bool.true_eq_false, Bool.false_eq_true, reduceCtorEq, true_and, and_true, e0_2, e0_1, e0_5, e0_6, e0_16, e0_17, encPV, g75_0]
     refine hM _ _ ?_
     clear hM M
     exact pops_done (hJ33 _ (wk_same (wk_any ((wk_any (Wk.refl _ _))))))
    ·skip
     intro g75_0 J33 hJ33
     simp only [List.take_succ_cons, List.take_zero]
     simp only [anyAt_cons, anyAt_nil] at hJ33
     refine pops_off (b := false) rfl rfl (by simp only [upd_at, Nat.reduceEqDiff, if_true, if_false, e0_2, e0_1, e0_5, e0_6, e0_16, e0_17, encPV, g75_0]) (by decide) ?_
     refine pops_off (b := false) rfl rfl (by simp only [upd_at, Nat.reduceEqDiff, if_true, if_false, e0_2, e0_1, e0_5, e0_6, e0_16, e0_17, encPV, g75_0]) (by decide) ?_
     refine pops_to rfl fun M hM => ?_
     simp only [pop, St.eval, constSlot, upd_at, Nat.reduceEqDiff, if_true, if_false, popIf, true_implies, false_implies, Bool.true_eq_false, Bool.false_eq_true, reduceCtorEq, true_and, and_true, e0_2, e0_1, e0_5, e0_6, e0_16, e0_17, encPV, g75_0]
     refine hM _ _ ?_
     clear hM M
     exact pops_done (hJ33 _ (wk_same (wk_any ((wk_any (Wk.refl _ _))))))
    simp only [List.drop_succ_cons, List.drop_zero, anyAt_cons, anyAt_nil]
    refine pops_mv (.inr rfl) rfl (by simp only [St.eval, upd_at, Nat.reduceEqDiff, if_true, if_false, e0_2, e0_1, e0_5, e0_6, e0_16, e0_17, encPV] <;> rfl) ?_
    refine pops_done (hR32 _ ?_)
    clear hR32 R32
    try simp only [thenK, scopeK]
    refine hN31 _ ?_
    clear hN31 N31
    refine pwp_cond (by simp only [St.eval, upd_at, Nat.reduceEqDiff, if_true, if_false, e0_2, e0_1, e0_5, e0_6, e0_16, e0_17, encPV] <;> rfl) (fun c72 => ?_) (fun c72 => ?_)
    ·skip
     have hk94 : x.kase = true ∧ c = 94 := by simpa [u8_94] using c72
     obtain ⟨hka, rfl⟩ := hk94
     have he : encAt x (x.names.contains (lowL s)) s.length i 94 = [94, 94] := encAt_case hi hesc ⟨hka, .inl rfl⟩
     refine pwp_reg fun R34 hR34 => ?_
     refine pops_mv (.inl rfl) rfl (by simp only [St.eval, upd_at, Nat.reduceEqDiff, if_true, if_false, e0_2, e0_1, e0_5, e0_6, e0_16, e0_17, encPV] <;> rfl) ?_
     refine pops_to rfl fun M hM => ?_
     simp only [pop, St.eval, constSlot, upd_at, Nat.reduceEqDiff, if_true, if_false, popBuildSlice, slotCells, List.toList_toArray, List.map_cons, List.map_nil, List.mapM_cons, List.mapM_nil, Option.bind_eq_bind, Option.bind_some, Option.pure_def, Tryd.underlying73, sz5, ze5, by5, eq_self, true_and, and_true, str_list, str_size, str_app, str_cut, str_get, e0_2, e0_1, e0_5, e0_6, e0_16, e0_17, encPV]
     refine ⟨by decide, by decide, rfl, rfl, by simp, by decide, rfl, hM _ _ ?_⟩
     clear hM M
     refine pops_to rfl fun M hM => ?_
     simp only [pop, St.eval, constSlot, upd_at, Nat.reduceEqDiff, if_true, if_false, popCall, List.toList_toArray, List.map_cons, List.map_nil, popBuiltin, eq_self, true_and, and_true, str_list, str_size, str_app, str_cut, str_get, e0_2, e0_1, e0_5, e0_6, e0_16, e0_17, encPV]
     refine row_app (ys := ([94, 94] : List UInt8).map byteCell) hb Tryd.underlying73 sz5 by5 ze5 rfl (by decide) (ho.same sj27) (hk0.trans (Same.keeps sj27)) rfl (.inr rfl) ⟨by simp; omega, by simp; omega⟩ fun sl2 hp2 ho2 hk2 => hM _ _ ?_
     clear hM M
     refine pops_mv (.inr rfl) rfl (by simp only [St.eval, upd_at, Nat.reduceEqDiff, if_true, if_false, e0_2, e0_1, e0_5, e0_6, e0_16, e0_17, encPV] <;> rfl) ?_
     refine pops_done (hR34 _ ?_)
     clear hR34 R34
     try simp only [blockK, thenK, scopeK]
     try simp only [blockK, thenK, scopeK]
     try simp only [thenK, scopeK]
     refine hN13 _ ?_
     clear hN13 N13
     refine pwp_reg fun R35 hR35 => ?_
     refine pops_to rfl fun M hM => ?_
     simp only [pop, St.eval, constSlot, upd_at, Nat.reduceEqDiff, if_true, if_false, popBin, binK, intK, strK, eqK, eq_self, true_and, and_true, e0_2, e0_1, e0_5, e0_6, e0_16, e0_17, encPV]
     refine hM _ _ ?_
     clear hM M
     refine pops_mv (.inl rfl) rfl (by simp only [St.eval, upd_at, Nat.reduceEqDiff, if_true, if_false, e0_2, e0_1, e0_5, e0_6, e0_16, e0_17, encPV] <;> rfl) ?_
     refine pops_done (hR35 _ ?_)
     clear hR35 R35
     try simp only [thenK, scopeK]
     exact ⟨_, by omega, _, .refl _ _, i + 1, sl2, out ++ [94, 94], rfl, by omega, encFrom_step hx he hx0_1, by simp; omega, ⟨hk2, by rw [List.map_append]; exact ho2⟩, by simp only [upd_at, Nat.reduceEqDiff, if_true, if_false, e0_2, e0_1, e0_5, e0_6, e0_16, e0_17, encPV], by simp only [upd_at, Nat.reduceEqDiff, if_true, if_false, e0_2, e0_1, e0_5, e0_6, e0_16, e0_17, encPV], by simp only [upd_at, Nat.reduceEqDiff, if_true, if_false, e0_2, e0_1, e0_5, e0_6, e0_16, e0_17, encPV], by simp only [upd_at, Nat.reduceEqDiff, if_true, if_false, e0_2, e0_1, e0_5, e0_6, e0_16, e0_17, encPV], by simp only [upd_at, Nat.reduceEqDiff, if_true, if_false, e0_2, e0_1, e0_5, e0_6, e0_16, e0_17, encPV], by simp only [upd_at, Nat.reduceEqDiff, if_true, if_false, e0_17]; rw [wrap_succ (by omega)]⟩
    ·skip
     rw [u8_94] at c72
     refine pwp_then fun N36 hN36 => ?_
     refine pwp_reg fun R37 hR37 => ?_
     refine pops_to rfl fun M hM => ?_
     simp only [pop, St.eval, constSlot, upd_at, Nat.reduceEqDiff, if_true, if_false, popFieldAddr, fieldOf, List.drop_succ_cons, List.drop_zero, List.getElem?_toArray, List.getElem?_cons_zero, List.getElem?_cons_succ, Tryd.underlying64, sz4, e0_2, e0_1, e0_5, e0_6, e0_16, e0_17, encPV]
     refine ⟨⟨_, rfl⟩, hM _ _ ?_⟩
     clear hM M
     refine pops_to rfl fun M hM => ?_
     simp only [pop, St.eval, constSlot, upd_at, Nat.reduceEqDiff, if_true, if_false, popLoad, loadK, isAggD, List.drop_zero, List.getElem?_toArray, List.getElem?_cons_zero, List.getElem?_cons_succ, Bool.false_eq_true, Tryd.underlying4, sz4, eq_self, true_and, and_true, e0_2, e0_1, e0_5, e0_6, e0_16, e0_17, encPV]
     refine hM _ _ ?_
     clear hM M
     refine pops_mv (.inl rfl) rfl (by simp only [St.eval, upd_at, Nat.reduceEqDiff, if_true, if_false, e0_2, e0_1, e0_5, e0_6, e0_16, e0_17, encPV] <;> rfl) ?_
     apply pops_and0 3 85 88 [86, 87] (by simp only [upd_at, Nat.reduceEqDiff, if_true, if_false, e0_2, e0_1, e0_5, e0_6, e0_16, e0_17, encPV] <;> rfl)
     ·skip
      intro g85_0 J38 hJ38
      simp only [List.take_succ_cons, List.take_zero]
      simp only [anyAt_cons, anyAt_nil] at hJ38
      refine pops_do rfl rfl (by simp only [upd_at, Nat.reduceEqDiff, if_true, if_false, e0_2, e0_1, e0_5, e0_6, e0_16, e0_17, encPV, g85_0]) fun M hM => ?_
      simp only [pop, St.eval, constSlot, upd_at, Nat.reduceEqDiff, if_true, if_false, popLoad, loadK, isAggD, List.drop_zero, List.getElem?_toArray, List.getElem?_cons_zero, List.getElem?_cons_succ, Bool.false_eq_true, Tryd.underlying5, sz5, eq_self, true_and, and_true, e0_2, e0_1, e0_5, e0_6, e0_16, e0_17, encPV, g85_0]
      refine hM _ _ ?_
      clear hM M
      refine pops_do rfl rfl (by simp only [upd_at, Nat.reduceEqDiff, if_true, if_false, e0_2, e0_1, e0_5, e0_6, e0_16, e0_17, encPV, g85_0]) fun M hM => ?_
      simp only [pop, St.eval, constSlot, upd_at, Nat.reduceEqDiff, if_true, if_false, popBin, binK, intK, strK, eqK, eq_self, true_and, and_true, e0_2, e0_1, e0_5, e0_6, e0_16, e0_17, encPV, g85_0]
      refine hM _ _ ?_
      clear hM M
      refine pops_to rfl fun M hM => ?_
      simp only [pop, St.eval, constSlot, upd_at, Nat.reduceEqDiff, if_true, if_false, popIf, true_implies, false_implies, Bool.true_eq_false, Bool.false_eq_true, reduceCtorEq, true_and, and_true, e0_2, e0_1, e0_5, e0_6, e0_16, e0_17, encPV, g85_0]
      refine hM _ _ ?_
      clear hM M
      exact pops_done (hJ38 _ (wk_same (wk_any ((wk_any (Wk.refl _ _))))))
     ·skip
      intro g85_0 J38 hJ38
      simp only [List.take_succ_cons, List.take_zero]
      simp only [anyAt_cons, anyAt_nil] at hJ38
      refine pops_off (b := false) rfl rfl (by simp only [upd_at, Nat.reduceEqDiff, if_true, if_false, e0_2, e0_1, e0_5, e0_6, e0_16, e0_17, encPV, g85_0]) (by decide) ?_
      refine pops_off (b := false) rfl rfl (by simp only [upd_at, Nat.reduceEqDiff, if_true, if_false, e0_2, e0_1, e0_5, e0_6, e0_16, e0_17, encPV, g85_0]) (by decide) ?_
      refine pops_to rfl fun M hM => ?_
      simp only [pop, St.eval, constSlot, upd_at, Nat.reduceEqDiff, if_true, if_false, popIf, true_implies, false_implies, Bool.true_eq_false, Bool.false_eq_true, reduceCtorEq, true_and, and_true, e0_2, e0_1, e0_5, e0_6, e0_16, e0_17, encPV, g85_0]
      refine hM _ _ ?_
      clear hM M
      exact pops_done (hJ38 _ (wk_same (wk_any ((wk_any (Wk.refl _ _))))))
     simp only [List.drop_succ_cons, List.drop_zero, anyAt_cons, anyAt_nil]
     refine pops_mv (.inl rfl) rfl (by simp only [St.eval, upd_at, Nat.reduceEqDiff, if_true, if_false, e0_2, e0_1, e0_5, e0_6, e0_16, e0_17, encPV] <;> rfl) ?_
     apply pops_and0 3 89 92 [90, 91] (by simp only [upd_at, Nat.reduceEqDiff, if_true, if_false, e0_2, e0_1, e0_5, e0_6, e0_16, e0_17, encPV] <;> rfl)
     ·skip
      intro g89_0 J39 hJ39
      simp only [List.take_succ_cons, List.take_zero]
      simp only [anyAt_cons, anyAt_nil] at hJ39
      refine pops_do rfl rfl (by simp only [upd_at, Nat.reduceEqDiff, if_true, if_false, e0_2, e0_1, e0_5, e0_6, e0_16, e0_17, encPV, g89_0]) fun M hM => ?_
      simp only [pop, St.eval, constSlot, upd_at, Nat.reduceEqDiff, if_true, if_false, popLoad, loadK, isAggD, List.drop_zero, List.getElem?_toArray, List.getElem?_cons_zero, List.getElem?_cons_succ, Bool.false_eq_true, Tryd.underlying5, sz5, eq_self, true_and, and_true, e0_2, e0_1, e0_5, e0_6, e0_16, e0_17, encPV, g89_0]
      refine hM _ _ ?_
      clear hM M
      refine pops_do rfl rfl (by simp only [upd_at, Nat.reduceEqDiff, if_true, if_false, e0_2, e0_1, e0_5, e0_6, e0_16, e0_17, encPV, g89_0]) fun M hM => ?_
      simp only [pop, St.eval, constSlot, upd_at, Nat.reduceEqDiff, if_true, if_false, popBin, binK, intK, strK, eqK, eq_self, true_and, and_true, e0_2, e0_1, e0_5, e0_6, e0_16, e0_17, encPV, g89_0]
      refine hM _ _ ?_
      clear hM M
      refine pops_to rfl fun M hM => ?_
      simp only [pop, St.eval, constSlot, upd_at, Nat.reduceEqDiff, if_true, if_false, popIf, true_implies, false_implies, Bool.true_eq_false, Bool.false_eq_true, reduceCtorEq, true_and, and_true, e0_2, e0_1, e0_5, e0_6, e0_16, e0_17, encPV, g89_0]
      refine hM _ _ ?_
      clear hM M
      exact pops_done (hJ39 _ (wk_same (wk_any ((wk_any (Wk.refl _ _))))))
     ·skip
      intro g89_0 J39 hJ39
      simp only [List.take_succ_cons, List.take_zero]
      simp only [anyAt_cons, anyAt_nil] at hJ39
      refine pops_off (b := false) rfl rfl (by simp only [upd_at, Nat.reduceEqDiff, if_true, if_false, e0_2, e0_1, e0_5, e0_6, e0_16, e0_17, encPV, g89_0]) (by decide) ?_
      refine pops_off (b := false) rfl rfl (by simp only [upd_at, Nat.reduceEqDiff, if_true, if_false, e0_2, e0_1, e0_5, e0_6, e0_16, e0_17, encPV, g89_0]) (by decide) ?_
      refine pops_to rfl fun M hM => ?_
      simp only [pop, St.eval, constSlot, upd_at, Nat.reduceEqDiff, if_true, if_false, popIf, true_implies, false_implies, Bool.true_eq_false, Bool.false_eq_true, reduceCtorEq, true_and, and_true, e0_2, e0_1, e0_5, e0_6, e0_16, e0_17, encPV, g89_0]
      refine hM _ _ ?_
      clear hM M
      exact pops_done (hJ39 _ (wk_same (wk_any ((wk_any (Wk.refl _ _))))))
     simp only [List.drop_succ_cons, List.drop_zero, anyAt_cons, anyAt_nil]
     refine pops_mv (.inr rfl) rfl (by simp only [St.eval, upd_at, Nat.reduceEqDiff, if_true, if_false, e0_2, e0_1, e0_5, e0_6, e0_16, e0_17, encPV] <;> rfl) ?_
     refine pops_done (hR37 _ ?_)
     clear hR37 R37
     try simp only [thenK, scopeK]
     refine hN36 _ ?_
     clear hN36 N36
     refine pwp_cond (by simp only [St.eval, upd_at, Nat.reduceEqDiff, if_true, if_false, e0_2, e0_1, e0_5, e0_6, e0_16, e0_17, encPV] <;> rfl) (fun c82 => ?_) (fun c82 => ?_)
     ·skip
      have hup : 65 ≤ c.toNat ∧ c.toNat ≤ 90 := by simp at c82; omega
      have hka : x.kase = true := by simp at c82; exact c82.1.1
      have he := encAt_case hi hesc ⟨hka, .inr hup⟩
      have hw2 := low_add hup
      refine pwp_reg fun R40 hR40 => ?_
      refine pops_mv (.inl rfl) rfl (by simp only [St.eval, upd_at, Nat.reduceEqDiff, if_true, if_false, e0_2, e0_1, e0_5, e0_6, e0_16, e0_17, encPV] <;> rfl) ?_
      refine pops_to rfl fun M hM => ?_
      simp only [pop, St.eval, constSlot, upd_at, Nat.reduceEqDiff, if_true, if_false, popLoad, loadK, isAggD, List.drop_zero, List.getElem?_toArray, List.getElem?_cons_zero, List.getElem?_cons_succ, Bool.false_eq_true, Tryd.underlying5, sz5, eq_self, true_and, and_true, e0_2, e0_1, e0_5, e0_6, e0_16, e0_17, encPV]
      refine hM _ _ ?_
      clear hM M
      refine pops_to rfl fun M hM => ?_
      simp only [pop, St.eval, constSlot, upd_at, Nat.reduceEqDiff, if_true, if_false, popBin, binK, intK, strK, eqK, eq_self, true_and, and_true, e0_2, e0_1, e0_5, e0_6, e0_16, e0_17, encPV, hw2]
      refine hM _ _ ?_
      clear hM M
      refine pops_to rfl fun M hM => ?_
      simp only [pop, St.eval, constSlot, upd_at, Nat.reduceEqDiff, if_true, if_false, popBuildSlice, slotCells, List.toList_toArray, List.map_cons, List.map_nil, List.mapM_cons, List.mapM_nil, Option.bind_eq_bind, Option.bind_some, Option.pure_def, Tryd.underlying73, sz5, ze5, by5, eq_self, true_and, and_true, str_list, str_size, str_app, str_cut, str_get, e0_2, e0_1, e0_5, e0_6, e0_16, e0_17, encPV]
      refine ⟨by decide, by decide, rfl, rfl, by simp, by decide, rfl, hM _ _ ?_⟩
      clear hM M
      refine pops_to rfl fun M hM => ?_
      simp only [pop, St.eval, constSlot, upd_at, Nat.reduceEqDiff, if_true, if_false, popCall, List.toList_toArray, List.map_cons, List.map_nil, popBuiltin, eq_self, true_and, and_true, str_list, str_size, str_app, str_cut, str_get, e0_2, e0_1, e0_5, e0_6, e0_16, e0_17, encPV]
      refine row_app (ys := ([94, lowC c] : List UInt8).map byteCell) hb Tryd.underlying73 sz5 by5 ze5 rfl (by decide) (ho.same sj27) (hk0.trans (Same.keeps sj27)) rfl (.inr rfl) ⟨by simp; omega, by simp; omega⟩ fun sl2 hp2 ho2 hk2 => hM _ _ ?_
      clear hM M
      refine pops_mv (.inr rfl) rfl (by simp only [St.eval, upd_at, Nat.reduceEqDiff, if_true, if_false, e0_2, e0_1, e0_5, e0_6, e0_16, e0_17, encPV] <;> rfl) ?_
      refine pops_done (hR40 _ ?_)
      clear hR40 R40
      try simp only [blockK, thenK, scopeK]
      try simp only [blockK, thenK, scopeK]
      try simp only [thenK, scopeK]
      refine hN13 _ ?_
      clear hN13 N13
      refine pwp_reg fun R41 hR41 => ?_
      refine pops_to rfl fun M hM => ?_
      simp only [pop, St.eval, constSlot, upd_at, Nat.reduceEqDiff, if_true, if_false, popBin, binK, intK, strK, eqK, eq_self, true_and, and_true, e0_2, e0_1, e0_5, e0_6, e0_16, e0_17, encPV]
      refine hM _ _ ?_
      clear hM M
      refine pops_mv (.inl rfl) rfl (by simp only [St.eval, upd_at, Nat.reduceEqDiff, if_true, if_false, e0_2, e0_1, e0_5, e0_6, e0_16, e0_17, encPV] <;> rfl) ?_
      refine pops_done (hR41 _ ?_)
      clear hR41 R41
      try simp only [thenK, scopeK]
      exact ⟨_, by omega, _, .refl _ _, i + 1, sl2, out ++ [94, lowC c], rfl, by omega, encFrom_step hx he hx0_1, by simp; omega, ⟨hk2, by rw [List.map_append]; exact ho2⟩, by simp only [upd_at, Nat.reduceEqDiff, if_true, if_false, e0_2, e0_1, e0_5, e0_6, e0_16, e0_17, encPV], by simp only [upd_at, Nat.reduceEqDiff, if_true, if_false, e0_2, e0_1, e0_5, e0_6, e0_16, e0_17, encPV], by simp only [upd_at, Nat.reduceEqDiff, if_true, if_false, e0_2, e0_1, e0_5, e0_6, e0_16, e0_17, encPV], by simp only [upd_at, Nat.reduceEqDiff, if_true, if_false, e0_2, e0_1, e0_5, e0_6, e0_16, e0_17, encPV], by simp only [upd_at, Nat.reduceEqDiff, if_true, if_false, e0_2, e0_1, e0_5, e0_6, e0_16, e0_17, encPV], by simp only [upd_at, Nat.reduceEqDiff, if_true, if_false, e0_17]; rw [wrap_succ (by omega)]⟩
     ·skip
      have he := encAt_plain hi hesc (by rintro ⟨h1, h2⟩; rcases h2 with h2 | h2; simp [h1, h2] at c72; simp [h1] at c82; omega)
      refine pwp_reg fun R42 hR42 => ?_
      refine pops_mv (.inl rfl) rfl (by simp only [St.eval, upd_at, Nat.reduceEqDiff, if_true, if_false, e0_2, e0_1, e0_5, e0_6, e0_16, e0_17, encPV] <;> rfl) ?_
      refine pops_to rfl fun M hM => ?_
      simp only [pop, St.eval, constSlot, upd_at, Nat.reduceEqDiff, if_true, if_false, popLoad, loadK, isAggD, List.drop_zero, List.getElem?_toArray, List.getElem?_cons_zero, List.getElem?_cons_succ, Bool.false_eq_true, Tryd.underlying5, sz5, eq_self, true_and, and_true, e0_2, e0_1, e0_5, e0_6, e0_16, e0_17, encPV]
      refine hM _ _ ?_
      clear hM M
      refine pops_to rfl fun M hM => ?_
      simp only [pop, St.eval, constSlot, upd_at, Nat.reduceEqDiff, if_true, if_false, popBuildSlice, slotCells, List.toList_toArray, List.map_cons, List.map_nil, List.mapM_cons, List.mapM_nil, Option.bind_eq_bind, Option.bind_some, Option.pure_def, Tryd.underlying73, sz5, ze5, by5, eq_self, true_and, and_true, str_list, str_size, str_app, str_cut, str_get, e0_2, e0_1, e0_5, e0_6, e0_16, e0_17, encPV]
      refine ⟨by decide, by decide, rfl, rfl, by simp, by decide, rfl, hM _ _ ?_⟩
      clear hM M
      refine pops_to rfl fun M hM => ?_
      simp only [pop, St.eval, constSlot, upd_at, Nat.reduceEqDiff, if_true, if_false, popCall, List.toList_toArray, List.map_cons, List.map_nil, popBuiltin, eq_self, true_and, and_true, str_list, str_size, str_app, str_cut, str_get, e0_2, e0_1, e0_5, e0_6, e0_16, e0_17, encPV]
      refine row_app (ys := ([c] : List UInt8).map byteCell) hb Tryd.underlying73 sz5 by5 ze5 rfl (by decide) (ho.same sj27) (hk0.trans (Same.keeps sj27)) rfl (.inr rfl) ⟨by simp; omega, by simp; omega⟩ fun sl2 hp2 ho2 hk2 => hM _ _ ?_
      clear hM M
      refine pops_mv (.inr rfl) rfl (by simp only [St.eval, upd_at, Nat.reduceEqDiff, if_true, if_false, e0_2, e0_1, e0_5, e0_6, e0_16, e0_17, encPV] <;> rfl) ?_
      refine pops_done (hR42 _ ?_)
      clear hR42 R42
      try simp only [blockK, thenK, scopeK]
      try simp only [blockK, thenK, scopeK]
      try simp only [thenK, scopeK]
      refine hN13 _ ?_
      clear hN13 N13
      refine pwp_reg fun R43 hR43 => ?_
      refine pops_to rfl fun M hM => ?_
      simp only [pop, St.eval, constSlot, upd_at, Nat.reduceEqDiff, if_true, if_false, popBin, binK, intK, strK, eqK, eq_self, true_and, and_true, e0_2, e0_1, e0_5, e0_6, e0_16, e0_17, encPV]
      refine hM _ _ ?_
      clear hM M
      refine pops_mv (.inl rfl) rfl (by simp only [St.eval, upd_at, Nat.reduceEqDiff, if_true, if_false, e0_2, e0_1, e0_5, e0_6, e0_16, e0_17, encPV] <;> rfl) ?_
      refine pops_done (hR43 _ ?_)
      clear hR43 R43
      try simp only [thenK, scopeK]
      exact ⟨_, by omega, _, .refl _ _, i + 1, sl2, out ++ [c], rfl, by omega, encFrom_step hx he hx0_1, by simp; omega, ⟨hk2, by rw [List.map_append]; exact ho2⟩, by simp only [upd_at, Nat.reduceEqDiff, if_true, if_false, e0_2, e0_1, e0_5, e0_6, e0_16, e0_17, encPV], by simp only [upd_at, Nat.reduceEqDiff, if_true, if_false, e0_2, e0_1, e0_5, e0_6, e0_16, e0_17, encPV], by simp only [upd_at, Nat.reduceEqDiff, if_true, if_false, e0_2, e0_1, e0_5, e0_6, e0_16, e0_17, encPV], by simp only [upd_at, Nat.reduceEqDiff, if_true, if_false, e0_2, e0_1, e0_5, e0_6, e0_16, e0_17, encPV], by simp only [upd_at, Nat.reduceEqDiff, if_true, if_false, e0_2, e0_1, e0_5, e0_6, e0_16, e0_17, encPV], by simp only [upd_at, Nat.reduceEqDiff, if_true, if_false, e0_17]; rw [wrap_succ (by omega)]⟩
  ·skip
   have hi := of_decide_eq_false c18
   obtain rfl := encFrom_end hi hx0_1
   refine pwp_exit ?_
   try simp only [thenK, blockK, scopeK, if_true, Nat.reduceEqDiff, if_false]
   clear hN12 N12
   try simp only [blockK, scopeK, if_true, Nat.reduceEqDiff, if_false, thenK]
   try simp only [thenK, scopeK]
   refine hN7 _ ?_
   clear hN7 N7
   refine pwp_then fun N44 hN44 => ?_
   refine pwp_reg fun R45 hR45 => ?_
   refine pops_mv (.inl rfl) rfl (by simp only [St.eval, upd_at, Nat.reduceEqDiff, if_true, if_false, e0_2, e0_1, e0_5, e0_6, e0_16, e0_17, encPV] <;> rfl) ?_
   refine pops_to rfl fun M hM => ?_
   simp only [pop, St.eval, constSlot, upd_at, Nat.reduceEqDiff, if_true, if_false, eq_self, true_and, and_true, str_list, str_size, str_app, str_cut, str_get, e0_2, e0_1, e0_5, e0_6, e0_16, e0_17, encPV]
   refine row_str Tryd.underlying9 Tryd.underlying73 Tryd.underlying5 (ho.same (Same.refl _)) (hM _ _ ?_)
   clear hM M
   refine pops_mv (.inr rfl) rfl (by simp only [St.eval, upd_at, Nat.reduceEqDiff, if_true, if_false, e0_2, e0_1, e0_5, e0_6, e0_16, e0_17, encPV] <;> rfl) ?_
   refine pops_done (hR45 _ ?_)
   clear hR45 R45
   try simp only [thenK, scopeK]
   refine hN44 _ ?_
   clear hN44 N44
   refine pwp_ret ?_
   simp only [thenK, blockK, scopeK, bodyK]
   exact ⟨_, rfl, endKeeps1 (hk0.trans (Same.keeps (Same.refl _))) rfl⟩
end Go.Pw
