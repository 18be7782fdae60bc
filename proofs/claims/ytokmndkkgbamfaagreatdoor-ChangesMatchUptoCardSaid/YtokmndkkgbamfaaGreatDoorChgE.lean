import Derived.Test.YtokmndkkgbamfaaGreatDoorChgV
import Derived.Laws.StructEq
import Derived.Test.YtokmndkkgbamfaaGreatDoorChgFacts
namespace Go.Pw
open Go Go.RowKit Go.Proofs
set_option maxRecDepth 100000
set_option linter.unusedSimpArgs false
set_option linter.unusedVariables false

theorem eq_chg (k k2 : Int) (p p2 : List UInt8) (w : World) : (Op.equal 90 (.agg #[.int .i64 k, .string ⟨p.toArray⟩]) (.agg #[.int .i64 k2, .string ⟨p2.toArray⟩])).run Tryz.prog w = .ok ((k == k2) && ((⟨p.toArray⟩ : ByteArray).toList == (⟨p2.toArray⟩ : ByteArray).toList)) w := by
  show (Op.equalIn 10000 90 _ _).run Tryz.prog w = _
  rw [run_equalIn_struct w 9999 90 _ _ (by simp [Program.fieldsOf, Tryz.underlying90]) (by kernel_rfl)]
  simp only [Program.fieldsOf, Tryz.underlying90]
  go_simp
  by_cases h1 : k = k2 <;> by_cases h2 : p = p2 <;> simp [h1, h2]
theorem nm76 : (Tryz.f76.name == "runtime.NumGoroutine") = false := by kernel_rfl
theorem eqChg_fun (W0 : World) (l : List (Int × List UInt8)) (hn : l.length ≤ 9223372036854775807) :
  PFun Tryz.prog W0 76 [.one (.ro false 2 (l.map chgPV)), .one (.ro false 2 (l.map chgPV))] (.sv (.one (pbool true))) := by
 intro h
 refine pcalls2 (n := 26) Tryz.func76 rfl nm76 rfl fun hb => ?_
 refine pwp_then fun N1 hN1 => ?_
 refine pwp_reg fun R2 hR2 => ?_
 refine pops_mv (.inr rfl) rfl (by simp only [St.eval, constSlot] <;> rfl) ?_
 refine pops_done (hR2 _ ?_)
 clear hR2 R2
 try simp only [thenK, scopeK]
 refine hN1 _ ?_
 clear hN1 N1
 refine pwp_then fun N3 hN3 => ?_
 refine pwp_then fun N4 hN4 => ?_
 refine pwp_reg fun R5 hR5 => ?_
 refine pops_mv (.inl rfl) rfl (by simp only [St.eval, upd_at, Nat.reduceEqDiff, if_true, if_false, chgPV] <;> rfl) ?_
 refine pops_to rfl fun M hM => ?_
 simp only [pop, St.eval, constSlot, upd_at, Nat.reduceEqDiff, if_true, if_false, popCall, List.toList_toArray, List.map_cons, List.map_nil, popBuiltin, popLen, lenOfSlot, List.length_map, Tryz.underlying45, eq_self, true_and, and_true, str_list, str_size, str_app, str_cut, str_get, chgPV, List.length_map]
 refine hM _ _ ?_
 clear hM M
 refine pops_mv (.inl rfl) rfl (by simp only [St.eval, upd_at, Nat.reduceEqDiff, if_true, if_false, chgPV] <;> rfl) ?_
 refine pops_to rfl fun M hM => ?_
 simp only [pop, St.eval, constSlot, upd_at, Nat.reduceEqDiff, if_true, if_false, popCall, List.toList_toArray, List.map_cons, List.map_nil, popBuiltin, popLen, lenOfSlot, List.length_map, Tryz.underlying45, eq_self, true_and, and_true, str_list, str_size, str_app, str_cut, str_get, chgPV, List.length_map]
 refine hM _ _ ?_
 clear hM M
 refine pops_to rfl fun M hM => ?_
 simp only [pop, St.eval, constSlot, upd_at, Nat.reduceEqDiff, if_true, if_false, popBin, binK, intK, strK, eqK, Tryz.underlying3, isPtr, eq_self, true_and, and_true, chgPV, bne_self_eq_false]
 refine hM _ _ ?_
 clear hM M
 refine pops_done (hR5 _ ?_)
 clear hR5 R5
 try simp only [thenK, scopeK]
 refine hN4 _ ?_
 clear hN4 N4
 refine pwp_cond_false (by simp only [St.eval, upd_at, Nat.reduceEqDiff, if_true, if_false, chgPV] <;> rfl) ?_
 refine pwp_skip ?_
 try simp only [thenK, scopeK]
 refine hN3 _ ?_
 clear hN3 N3
 refine pwp_then fun N6 hN6 => ?_
 refine pwp_then fun N7 hN7 => ?_
 refine pwp_reg fun R8 hR8 => ?_
 refine pops_mv (.inl rfl) rfl (by simp only [St.eval, upd_at, Nat.reduceEqDiff, if_true, if_false, chgPV] <;> rfl) ?_
 refine pops_to rfl fun M hM => ?_
 simp only [pop, St.eval, constSlot, upd_at, Nat.reduceEqDiff, if_true, if_false, popCall, List.toList_toArray, List.map_cons, List.map_nil, popBuiltin, popLen, lenOfSlot, List.length_map, Tryz.underlying45, eq_self, true_and, and_true, str_list, str_size, str_app, str_cut, str_get, chgPV, List.length_map]
 refine hM _ _ ?_
 clear hM M
 refine pops_mv (.inl rfl) rfl (by simp only [St.eval, constSlot] <;> rfl) ?_
 refine pops_done (hR8 _ ?_)
 clear hR8 R8
 try simp only [thenK, scopeK]
 refine hN7 _ ?_
 clear hN7 N7
 refine pwp_block ?_
 refine pwp_loop (fun k σ => ∃ (i : Nat), (k = l.length - i) ∧ (i ≤ l.length) ∧ (Same h σ.hp) ∧ (σ.env 0 = .sv (.one (.ro false 2 (l.map chgPV)))) ∧ (σ.env 1 = .sv (.one (.ro false 2 (l.map chgPV)))) ∧ (σ.env 12 = .sv (.one (pint (l.length : Nat)))) ∧ (σ.env 13 = .sv (.one (pint (i : Nat))))) _ ⟨_, .refl _ _, 0, rfl, ?_⟩ ?_
 · exact ⟨Nat.zero_le _, (Same.refl _), by simp only [upd_at, Nat.reduceEqDiff, if_true, if_false, chgPV], by simp only [upd_at, Nat.reduceEqDiff, if_true, if_false, chgPV], by simp only [upd_at, Nat.reduceEqDiff, if_true, if_false] <;> rfl, by simp only [upd_at, Nat.reduceEqDiff, if_true, if_false] <;> rfl⟩
 ·rintro k ⟨e, hp0⟩ ⟨i, hk0, hx0_0, sl0, e0_0, e0_1, e0_12, e0_13⟩
  simp only at sl0 e0_0 e0_1 e0_12 e0_13
  refine pwp_then fun N9 hN9 => ?_
  refine pwp_reg fun R10 hR10 => ?_
  refine pops_to rfl fun M hM => ?_
  simp only [pop, St.eval, constSlot, upd_at, Nat.reduceEqDiff, if_true, if_false, popBin, binK, intK, strK, eqK, eq_self, true_and, and_true, e0_0, e0_1, e0_12, e0_13, chgPV]
  refine hM _ _ ?_
  clear hM M
  refine pops_done (hR10 _ ?_)
  clear hR10 R10
  try simp only [thenK, scopeK]
  refine hN9 _ ?_
  clear hN9 N9
  refine pwp_then fun N11 hN11 => ?_
  refine pwp_cond (by simp only [St.eval, upd_at, Nat.reduceEqDiff, if_true, if_false, e0_0, e0_1, e0_12, e0_13, chgPV] <;> rfl) (fun c14 => ?_) (fun c14 => ?_)
  ·skip
   have hi : i < l.length := by have := of_decide_eq_true c14; omega
   obtain ⟨x, hx⟩ : ∃ x, l[i]? = some x := ⟨_, List.getElem?_eq_getElem (by omega)⟩
   have hget : (l.map chgPV)[i]? = some [pint x.1, pstr x.2] := by simp only [List.getElem?_map, hx, Option.map_some]
   refine pwp_skip ?_
   try simp only [thenK, scopeK]
   refine hN11 _ ?_
   clear hN11 N11
   refine pwp_then fun N12 hN12 => ?_
   refine pwp_block ?_
   refine pwp_then fun N13 hN13 => ?_
   refine pwp_reg fun R14 hR14 => ?_
   refine pops_mv (.inl rfl) rfl (by simp only [St.eval, upd_at, Nat.reduceEqDiff, if_true, if_false, e0_0, e0_1, e0_12, e0_13, chgPV] <;> rfl) ?_
   refine pops_mv (.inr rfl) rfl (by simp only [St.eval, upd_at, Nat.reduceEqDiff, if_true, if_false, e0_0, e0_1, e0_12, e0_13, chgPV] <;> rfl) ?_
   refine pops_done (hR14 _ ?_)
   clear hR14 R14
   try simp only [thenK, scopeK]
   refine hN13 _ ?_
   clear hN13 N13
   refine pwp_then fun N15 hN15 => ?_
   refine pwp_dreg 9 mixed (by decide +kernel) fun R16 hR16 => ?_
   simp only [List.take_succ_cons, List.take_zero, List.drop_succ_cons, List.drop_zero]
   apply lex_to
   · rfl
   ·intro h' s' M hM
    simp only [pop, St.eval, constSlot, upd_at, Nat.reduceEqDiff, if_true, if_false, eq_self, true_and, and_true, str_list, str_size, str_app, str_cut, str_get, e0_0, e0_1, e0_12, e0_13, chgPV, s'.1]
    exact hM _ (.refl _)
   apply lex_to
   · rfl
   ·intro h' s' M hM
    simp only [pop, St.eval, constSlot, upd_at, Nat.reduceEqDiff, if_true, if_false, eq_self, true_and, and_true, str_list, str_size, str_app, str_cut, str_get, e0_0, e0_1, e0_12, e0_13, chgPV, s'.1]
    exact hM _ (.refl _)
   apply lex_to
   · rfl
   ·intro h' s' M hM
    simp only [pop, St.eval, constSlot, upd_at, Nat.reduceEqDiff, if_true, if_false, popIndexAddr, Tryz.underlying45, sz90, eq_self, true_and, and_true, str_list, str_size, str_app, str_cut, str_get, e0_0, e0_1, e0_12, e0_13, chgPV, hget, Int.toNat_natCast, s'.1]
    refine ⟨Int.natCast_nonneg _, ?_⟩
    exact hM _ (.refl _)
   apply lex_to
   · rfl
   ·intro h' s' M hM
    simp only [pop, St.eval, constSlot, upd_at, Nat.reduceEqDiff, if_true, if_false, List.length_cons, List.length_nil, Nat.zero_add, Nat.reduceAdd, Nat.reduceLeDiff, List.take_zero, List.take_succ_cons, List.take_nil, List.drop_succ_cons, List.drop_zero, List.drop_nil, List.nil_append, List.cons_append, List.append_nil, and_self, List.getElem?_cons_zero, List.getElem?_cons_succ, List.set_cons_zero, List.set_cons_succ, Option.some.injEq, popLoad, loadK, isAggD, List.drop_zero, List.getElem?_toArray, List.getElem?_cons_zero, List.getElem?_cons_succ, Bool.false_eq_true, Tryz.underlying90, sz90, eq_self, true_and, and_true, e0_0, e0_1, e0_12, e0_13, chgPV, s'.1]
    exact hM _ (.refl _)
   apply lex_to
   · rfl
   ·intro h' s' M hM
    simp only [pop, St.eval, constSlot, upd_at, Nat.reduceEqDiff, if_true, if_false, eq_self, true_and, and_true, str_list, str_size, str_app, str_cut, str_get, e0_0, e0_1, e0_12, e0_13, chgPV, s'.1]
    exact hM _ (.refl _)
   apply lex_to
   · rfl
   ·intro h' s' M hM
    simp only [pop, St.eval, constSlot, upd_at, Nat.reduceEqDiff, if_true, if_false, eq_self, true_and, and_true, str_list, str_size, str_app, str_cut, str_get, e0_0, e0_1, e0_12, e0_13, chgPV, s'.1]
    exact hM _ (.refl _)
   apply lex_to
   · rfl
   ·intro h' s' M hM
    simp only [pop, St.eval, constSlot, upd_at, Nat.reduceEqDiff, if_true, if_false, popIndexAddr, Tryz.underlying45, sz90, eq_self, true_and, and_true, str_list, str_size, str_app, str_cut, str_get, e0_0, e0_1, e0_12, e0_13, chgPV, hget, Int.toNat_natCast, s'.1]
    refine ⟨Int.natCast_nonneg _, ?_⟩
    exact hM _ (.refl _)
   apply lex_to
   · rfl
   ·intro h' s' M hM
    simp only [pop, St.eval, constSlot, upd_at, Nat.reduceEqDiff, if_true, if_false, List.length_cons, List.length_nil, Nat.zero_add, Nat.reduceAdd, Nat.reduceLeDiff, List.take_zero, List.take_succ_cons, List.take_nil, List.drop_succ_cons, List.drop_zero, List.drop_nil, List.nil_append, List.cons_append, List.append_nil, and_self, List.getElem?_cons_zero, List.getElem?_cons_succ, List.set_cons_zero, List.set_cons_succ, Option.some.injEq, popLoad, loadK, isAggD, List.drop_zero, List.getElem?_toArray, List.getElem?_cons_zero, List.getElem?_cons_succ, Bool.false_eq_true, Tryz.underlying90, sz90, eq_self, true_and, and_true, e0_0, e0_1, e0_12, e0_13, chgPV, s'.1]
    exact hM _ (.refl _)
   apply lex_to
   · rfl
   ·intro h' s' M hM
    simp only [pop, St.eval, constSlot, upd_at, Nat.reduceEqDiff, if_true, if_false, popBin, binK, intK, strK, eqK, Tryz.underlying90, isPtr, eq_self, true_and, and_true, e0_0, e0_1, e0_12, e0_13, chgPV, s'.1]
    refine ⟨[.int .i64 x.1, .string ⟨x.2.toArray⟩], [.int .i64 x.1, .string ⟨x.2.toArray⟩], true, rfl, rfl, by kernel_rfl, fun w => by rw [eq_chg]; simp, ?_⟩
    exact hM _ (.refl _)
   refine lex_done fun hq sq => ?_
   replace sq := Same.trans sl0 sq
   refine pops_done (hR16 _ ?_)
   clear hR16 R16
   try simp only [thenK, scopeK]
   refine hN15 _ ?_
   clear hN15 N15
   refine pwp_cond_false (by simp only [St.eval, upd_at, Nat.reduceEqDiff, if_true, if_false, e0_0, e0_1, e0_12, e0_13, chgPV] <;> rfl) ?_
   refine pwp_skip ?_
   try simp only [blockK, thenK, scopeK]
   try simp only [thenK, scopeK]
   refine hN12 _ ?_
   clear hN12 N12
   refine pwp_reg fun R17 hR17 => ?_
   refine pops_to rfl fun M hM => ?_
   simp only [pop, St.eval, constSlot, upd_at, Nat.reduceEqDiff, if_true, if_false, popBin, binK, intK, strK, eqK, eq_self, true_and, and_true, e0_0, e0_1, e0_12, e0_13, chgPV]
   refine hM _ _ ?_
   clear hM M
   refine pops_mv (.inl rfl) rfl (by simp only [St.eval, upd_at, Nat.reduceEqDiff, if_true, if_false, e0_0, e0_1, e0_12, e0_13, chgPV] <;> rfl) ?_
   refine pops_done (hR17 _ ?_)
   clear hR17 R17
   try simp only [thenK, scopeK]
   exact ⟨_, by omega, _, .refl _ _, i + 1, rfl, by omega, sq, by simp only [upd_at, Nat.reduceEqDiff, if_true, if_false, e0_0, e0_1, e0_12, e0_13, chgPV], by simp only [upd_at, Nat.reduceEqDiff, if_true, if_false, e0_0, e0_1, e0_12, e0_13, chgPV], by simp only [upd_at, Nat.reduceEqDiff, if_true, if_false, e0_0, e0_1, e0_12, e0_13, chgPV], by simp only [upd_at, Nat.reduceEqDiff, if_true, if_false, e0_13]; rw [wrap_succ (by omega)]⟩
  ·skip
   have hi := of_decide_eq_false c14
   refine pwp_exit ?_
   try simp only [thenK, blockK, scopeK, if_true, Nat.reduceEqDiff, if_false]
   clear hN11 N11
   try simp only [blockK, scopeK, if_true, Nat.reduceEqDiff, if_false, thenK]
   try simp only [thenK, scopeK]
   refine hN6 _ ?_
   clear hN6 N6
   refine pwp_then fun N18 hN18 => ?_
   refine pwp_reg fun R19 hR19 => ?_
   refine pops_mv (.inr rfl) rfl (by simp only [St.eval, constSlot] <;> rfl) ?_
   refine pops_done (hR19 _ ?_)
   clear hR19 R19
   try simp only [thenK, scopeK]
   refine hN18 _ ?_
   clear hN18 N18
   refine pwp_ret ?_
   simp only [thenK, blockK, scopeK, bodyK]
   refine ⟨_, rfl, endFun sl0 ?_⟩
   try simp only [upd_at, Nat.reduceEqDiff, if_true, if_false, e0_0, e0_1, e0_12, e0_13, chgPV]
   all_goals
    rfl

theorem nm39 : (Tryz.f39.name == "runtime.NumGoroutine") = false := by kernel_rfl
theorem listeqChg_fun (W0 : World) (l : List (Int × List UInt8)) (hn : l.length ≤ 9223372036854775807) :
  PFun Tryz.prog W0 39 [.one (.ro false 2 (l.map chgPV)), .one (.ro false 2 (l.map chgPV))] (.sv (.one (pbool true))) := by
 intro h
 refine pcalls2 (n := 8) Tryz.func39 rfl nm39 rfl fun hb => ?_
 refine pwp_then fun N1 hN1 => ?_
 refine pwp_reg fun R2 hR2 => ?_
 refine pops_mv (.inr rfl) rfl (by simp only [St.eval, constSlot] <;> rfl) ?_
 refine pops_done (hR2 _ ?_)
 clear hR2 R2
 try simp only [thenK, scopeK]
 refine hN1 _ ?_
 clear hN1 N1
 refine pwp_then fun N3 hN3 => ?_
 refine pwp_reg fun R4 hR4 => ?_
 refine pops_mv (.inl rfl) rfl (by simp only [St.eval, upd_at, Nat.reduceEqDiff, if_true, if_false] <;> rfl) ?_
 refine pops_mv (.inl rfl) rfl (by simp only [St.eval, upd_at, Nat.reduceEqDiff, if_true, if_false] <;> rfl) ?_
 refine pops_to rfl fun M hM => ?_
 simp only [pop, St.eval, constSlot, upd_at, Nat.reduceEqDiff, if_true, if_false, popCall, List.toList_toArray, List.map_cons, List.map_nil, svs, List.mapM_cons, List.mapM_nil, Option.bind_eq_bind, Option.bind_some, Option.pure_def, List.append_nil, List.cons_append, List.nil_append, str_size]
 refine PFun.use (eqChg_fun W0 l hn) fun h1 s1 => hM _ _ ?_
 replace s1 := Same.trans (Same.refl _) s1
 clear hM M
 refine pops_mv (.inr rfl) rfl (by simp only [St.eval, upd_at, Nat.reduceEqDiff, if_true, if_false] <;> rfl) ?_
 refine pops_done (hR4 _ ?_)
 clear hR4 R4
 try simp only [thenK, scopeK]
 refine hN3 _ ?_
 clear hN3 N3
 refine pwp_ret ?_
 simp only [thenK, blockK, scopeK, bodyK]
 refine ⟨_, rfl, endFun s1 ?_⟩
 try simp only [upd_at, Nat.reduceEqDiff, if_true, if_false]
 all_goals
  rfl
end Go.Pw
