import Derived.Test.YtodafniobppglaaDoorLib
namespace Go.Pw
open Go Go.RowKit Go.Proofs
set_option maxRecDepth 100000
set_option linter.unusedSimpArgs false
set_option linter.unusedVariables false
theorem all_u8 {Q : UInt8 → Prop} (h : ∀ n : Fin 256, Q (UInt8.ofNat n.val)) (c : UInt8) : Q c := by
  have := h ⟨c.toNat, c.toNat_lt⟩
  simpa using this
def letterB (c : UInt8) : Bool := decide (65 ≤ c.toNat ∧ c.toNat ≤ 90) || decide (97 ≤ c.toNat ∧ c.toNat ≤ 122)
def digitB (c : UInt8) : Bool := decide (48 ≤ c.toNat ∧ c.toNat ≤ 57)
theorem letter_low (c : UInt8) : (decide (((lowC c).toNat : Int) ≥ 97) && decide (((lowC c).toNat : Int) ≤ 122)) = letterB c :=
  all_u8 (Q := fun c => (decide (((lowC c).toNat : Int) ≥ 97) && decide (((lowC c).toNat : Int) ≤ 122)) = letterB c) (by decide +kernel) c
theorem digit_low (c : UInt8) : (decide ((c.toNat : Int) ≥ 48) && decide ((c.toNat : Int) ≤ 57)) = digitB c :=
  all_u8 (Q := fun c => (decide ((c.toNat : Int) ≥ 48) && decide ((c.toNat : Int) ≤ 57)) = digitB c) (by decide +kernel) c
theorem nm88 : (Tryd.f88.name == "runtime.NumGoroutine") = false := by kernel_rfl
theorem small_fun (W0 : World) (c : UInt8) :
  PFun Tryd.prog W0 88 [.one (.val (.int .u8 c.toNat))] (.sv (.one (.val (.int .u8 (lowC c).toNat)))) := by
 intro h
 refine pcalls1 (n := 13) Tryd.func88 rfl nm88 rfl fun hb => ?_
 refine pwp_then fun N1 hN1 => ?_
 refine pwp_reg fun R2 hR2 => ?_
 refine pops_to rfl fun M hM => ?_
 simp only [pop, St.eval, constSlot, upd_at, Nat.reduceEqDiff, if_true, if_false, eq_self, true_and, and_true, str_list, str_size, str_app, str_cut, str_get]
 refine hM _ _ ?_
 clear hM M
 refine pops_done (hR2 _ ?_)
 clear hR2 R2
 try simp only [thenK, scopeK]
 refine hN1 _ ?_
 clear hN1 N1
 refine pwp_then fun N3 hN3 => ?_
 refine pwp_then fun N4 hN4 => ?_
 refine pwp_reg fun R5 hR5 => ?_
 refine pops_to rfl fun M hM => ?_
 simp only [pop, St.eval, constSlot, upd_at, Nat.reduceEqDiff, if_true, if_false, eq_self, true_and, and_true, str_list, str_size, str_app, str_cut, str_get]
 refine hM _ _ ?_
 clear hM M
 refine pops_to rfl fun M hM => ?_
 simp only [pop, St.eval, constSlot, upd_at, Nat.reduceEqDiff, if_true, if_false, popBin, binK, intK, strK, eqK, eq_self, true_and, and_true, str_list, str_size, str_app, str_cut, str_get]
 refine hM _ _ ?_
 clear hM M
 refine pops_to rfl fun M hM => ?_
 simp only [pop, St.eval, constSlot, upd_at, Nat.reduceEqDiff, if_true, if_false, eq_self, true_and, and_true, str_list, str_size, str_app, str_cut, str_get]
 refine hM _ _ ?_
 clear hM M
 refine pops_split 5 (by simp only [upd_at, Nat.reduceEqDiff, if_true, if_false] <;> rfl) (fun g5_0 => ?_) (fun g5_0 => ?_)
 ·skip
  have h65 : 65 ≤ c.toNat := by have := of_decide_eq_true g5_0; omega
  refine pops_do rfl rfl (by simp only [upd_at, Nat.reduceEqDiff, if_true, if_false, g5_0]) fun M hM => ?_
  simp only [pop, St.eval, constSlot, upd_at, Nat.reduceEqDiff, if_true, if_false, eq_self, true_and, and_true, str_list, str_size, str_app, str_cut, str_get, g5_0]
  refine hM _ _ ?_
  clear hM M
  refine pops_do rfl rfl (by simp only [upd_at, Nat.reduceEqDiff, if_true, if_false, g5_0]) fun M hM => ?_
  simp only [pop, St.eval, constSlot, upd_at, Nat.reduceEqDiff, if_true, if_false, popBin, binK, intK, strK, eqK, eq_self, true_and, and_true, str_list, str_size, str_app, str_cut, str_get, g5_0]
  refine hM _ _ ?_
  clear hM M
  refine pops_to rfl fun M hM => ?_
  simp only [pop, St.eval, constSlot, upd_at, Nat.reduceEqDiff, if_true, if_false, popIf, true_implies, false_implies, Bool.true_eq_false, Bool.false_eq_true, reduceCtorEq, eq_self, true_and, and_true, str_list, str_size, str_app, str_cut, str_get, g5_0]
  refine hM _ _ ?_
  clear hM M
  refine pops_done (hR5 _ ?_)
  clear hR5 R5
  try simp only [thenK, scopeK]
  refine hN4 _ ?_
  clear hN4 N4
  refine pwp_cond (by simp only [St.eval, upd_at, Nat.reduceEqDiff, if_true, if_false, g5_0] <;> rfl) (fun c8 => ?_) (fun c8 => ?_)
  ·skip
   have hc : 65 ≤ c.toNat ∧ c.toNat ≤ 90 := by have := of_decide_eq_true c8; omega
   have hw1 : IntKind.u8.wrap ((c.toNat : Int) - 65) = (c.toNat : Int) - 65 := wrap_u8 (by omega) (by omega)
   have hw2 : IntKind.u8.wrap ((c.toNat : Int) - 65 + 97) = (c.toNat : Int) - 65 + 97 := wrap_u8 (by omega) (by omega)
   have hl2 := lowC_toNat c hc
   refine pwp_then fun N6 hN6 => ?_
   refine pwp_reg fun R7 hR7 => ?_
   refine pops_to rfl fun M hM => ?_
   simp only [pop, St.eval, constSlot, upd_at, Nat.reduceEqDiff, if_true, if_false, eq_self, true_and, and_true, str_list, str_size, str_app, str_cut, str_get, g5_0]
   refine hM _ _ ?_
   clear hM M
   refine pops_to rfl fun M hM => ?_
   simp only [pop, St.eval, constSlot, upd_at, Nat.reduceEqDiff, if_true, if_false, popBin, binK, intK, strK, eqK, eq_self, true_and, and_true, str_list, str_size, str_app, str_cut, str_get, g5_0, hw1]
   refine hM _ _ ?_
   clear hM M
   refine pops_to rfl fun M hM => ?_
   simp only [pop, St.eval, constSlot, upd_at, Nat.reduceEqDiff, if_true, if_false, popBin, binK, intK, strK, eqK, eq_self, true_and, and_true, str_list, str_size, str_app, str_cut, str_get, g5_0, hw2]
   refine hM _ _ ?_
   clear hM M
   refine pops_to rfl fun M hM => ?_
   simp only [pop, St.eval, constSlot, upd_at, Nat.reduceEqDiff, if_true, if_false, eq_self, true_and, and_true, str_list, str_size, str_app, str_cut, str_get, g5_0]
   refine hM _ _ ?_
   clear hM M
   refine pops_done (hR7 _ ?_)
   clear hR7 R7
   try simp only [thenK, scopeK]
   refine hN6 _ ?_
   clear hN6 N6
   refine pwp_ret ?_
   simp only [thenK, blockK, scopeK, bodyK]
   clear hN3 N3
   refine ⟨_, rfl, endFun (Same.refl _) ?_⟩
   try simp only [upd_at, Nat.reduceEqDiff, if_true, if_false, g5_0]
   all_goals
    congr 4
    omega
  ·skip
   have hlow : lowC c = c := by unfold lowC; rw [if_neg (by have := of_decide_eq_false c8; omega)]
   refine pwp_skip ?_
   try simp only [thenK, scopeK]
   refine hN3 _ ?_
   clear hN3 N3
   refine pwp_then fun N8 hN8 => ?_
   refine pwp_reg fun R9 hR9 => ?_
   refine pops_to rfl fun M hM => ?_
   simp only [pop, St.eval, constSlot, upd_at, Nat.reduceEqDiff, if_true, if_false, eq_self, true_and, and_true, str_list, str_size, str_app, str_cut, str_get, g5_0]
   refine hM _ _ ?_
   clear hM M
   refine pops_to rfl fun M hM => ?_
   simp only [pop, St.eval, constSlot, upd_at, Nat.reduceEqDiff, if_true, if_false, eq_self, true_and, and_true, str_list, str_size, str_app, str_cut, str_get, g5_0]
   refine hM _ _ ?_
   clear hM M
   refine pops_done (hR9 _ ?_)
   clear hR9 R9
   try simp only [thenK, scopeK]
   refine hN8 _ ?_
   clear hN8 N8
   refine pwp_ret ?_
   simp only [thenK, blockK, scopeK, bodyK]
   refine ⟨_, rfl, endFun (Same.refl _) ?_⟩
   try simp only [upd_at, Nat.reduceEqDiff, if_true, if_false, g5_0]
   all_goals
    rw [hlow]
 ·skip
  have hlow : lowC c = c := by unfold lowC; rw [if_neg (by have := of_decide_eq_false g5_0; omega)]
  refine pops_off (b := false) rfl rfl (by simp only [upd_at, Nat.reduceEqDiff, if_true, if_false, g5_0]) (by decide) ?_
  refine pops_off (b := false) rfl rfl (by simp only [upd_at, Nat.reduceEqDiff, if_true, if_false, g5_0]) (by decide) ?_
  refine pops_to rfl fun M hM => ?_
  simp only [pop, St.eval, constSlot, upd_at, Nat.reduceEqDiff, if_true, if_false, popIf, true_implies, false_implies, Bool.true_eq_false, Bool.false_eq_true, reduceCtorEq, eq_self, true_and, and_true, str_list, str_size, str_app, str_cut, str_get, g5_0]
  refine hM _ _ ?_
  clear hM M
  refine pops_done (hR5 _ ?_)
  clear hR5 R5
  try simp only [thenK, scopeK]
  refine hN4 _ ?_
  clear hN4 N4
  refine pwp_cond_false (by simp only [St.eval, upd_at, Nat.reduceEqDiff, if_true, if_false, g5_0] <;> rfl) ?_
  refine pwp_skip ?_
  try simp only [thenK, scopeK]
  refine hN3 _ ?_
  clear hN3 N3
  refine pwp_then fun N10 hN10 => ?_
  refine pwp_reg fun R11 hR11 => ?_
  refine pops_to rfl fun M hM => ?_
  simp only [pop, St.eval, constSlot, upd_at, Nat.reduceEqDiff, if_true, if_false, eq_self, true_and, and_true, str_list, str_size, str_app, str_cut, str_get, g5_0]
  refine hM _ _ ?_
  clear hM M
  refine pops_to rfl fun M hM => ?_
  simp only [pop, St.eval, constSlot, upd_at, Nat.reduceEqDiff, if_true, if_false, eq_self, true_and, and_true, str_list, str_size, str_app, str_cut, str_get, g5_0]
  refine hM _ _ ?_
  clear hM M
  refine pops_done (hR11 _ ?_)
  clear hR11 R11
  try simp only [thenK, scopeK]
  refine hN10 _ ?_
  clear hN10 N10
  refine pwp_ret ?_
  simp only [thenK, blockK, scopeK, bodyK]
  refine ⟨_, rfl, endFun (Same.refl _) ?_⟩
  try simp only [upd_at, Nat.reduceEqDiff, if_true, if_false, g5_0]
  all_goals
   rw [hlow]

theorem nm48 : (Tryd.f48.name == "runtime.NumGoroutine") = false := by kernel_rfl
theorem letter_fun (W0 : World) (c : UInt8) :
  PFun Tryd.prog W0 48 [.one (.val (.int .u8 c.toNat))] (.sv (.one (pbool (letterB c)))) := by
 intro h
 refine pcalls1 (n := 11) Tryd.func48 rfl nm48 rfl fun hb => ?_
 refine pwp_then fun N1 hN1 => ?_
 refine pwp_reg fun R2 hR2 => ?_
 refine pops_mv (.inr rfl) rfl (by simp only [St.eval, constSlot] <;> rfl) ?_
 refine pops_done (hR2 _ ?_)
 clear hR2 R2
 try simp only [thenK, scopeK]
 refine hN1 _ ?_
 clear hN1 N1
 refine pwp_then fun N3 hN3 => ?_
 refine pwp_reg fun R4 hR4 => ?_
 refine pops_mv (.inl rfl) rfl (by simp only [St.eval, upd_at, Nat.reduceEqDiff, if_true, if_false] <;> rfl) ?_
 refine pops_to rfl fun M hM => ?_
 simp only [pop, St.eval, constSlot, upd_at, Nat.reduceEqDiff, if_true, if_false, popCall, List.toList_toArray, List.map_cons, List.map_nil, svs, List.mapM_cons, List.mapM_nil, Option.bind_eq_bind, Option.bind_some, Option.pure_def, List.append_nil, List.cons_append, List.nil_append, str_size]
 refine PFun.use (small_fun W0 c) fun h1 s1 => hM _ _ ?_
 replace s1 := Same.trans (Same.refl _) s1
 clear hM M
 refine pops_to rfl fun M hM => ?_
 simp only [pop, St.eval, constSlot, upd_at, Nat.reduceEqDiff, if_true, if_false, popBin, binK, intK, strK, eqK, eq_self, true_and, and_true]
 refine hM _ _ ?_
 clear hM M
 refine pops_mv (.inl rfl) rfl (by simp only [St.eval, upd_at, Nat.reduceEqDiff, if_true, if_false] <;> rfl) ?_
 apply pops_and 4 6 10 [7, 8, 9] (by simp only [upd_at, Nat.reduceEqDiff, if_true, if_false] <;> rfl)
 ·skip
  intro g6_0 J5 hJ5
  simp only [List.take_succ_cons, List.take_zero]
  simp only [anyAt_cons, anyAt_nil] at hJ5
  refine pops_mvg (.inl rfl) rfl rfl (by simp only [upd_at, Nat.reduceEqDiff, if_true, if_false, g6_0]) (by simp only [St.eval, upd_at, Nat.reduceEqDiff, if_true, if_false, g6_0] <;> rfl) ?_
  refine pops_do rfl rfl (by simp only [upd_at, Nat.reduceEqDiff, if_true, if_false, g6_0]) fun M hM => ?_
  simp only [pop, St.eval, constSlot, upd_at, Nat.reduceEqDiff, if_true, if_false, popCall, List.toList_toArray, List.map_cons, List.map_nil, svs, List.mapM_cons, List.mapM_nil, Option.bind_eq_bind, Option.bind_some, Option.pure_def, List.append_nil, List.cons_append, List.nil_append, str_size, g6_0]
  refine PFun.use (small_fun W0 c) fun h2 s2 => hM _ _ ?_
  replace s2 := Same.trans (Same.refl _) s2
  clear hM M
  refine pops_do rfl rfl (by simp only [upd_at, Nat.reduceEqDiff, if_true, if_false, g6_0]) fun M hM => ?_
  simp only [pop, St.eval, constSlot, upd_at, Nat.reduceEqDiff, if_true, if_false, popBin, binK, intK, strK, eqK, eq_self, true_and, and_true, g6_0]
  refine hM _ _ ?_
  clear hM M
  refine pops_to rfl fun M hM => ?_
  simp only [pop, St.eval, constSlot, upd_at, Nat.reduceEqDiff, if_true, if_false, popIf, true_implies, false_implies, Bool.true_eq_false, Bool.false_eq_true, reduceCtorEq, true_and, and_true, g6_0]
  refine hM _ _ ?_
  clear hM M
  exact pops_done (hJ5 _ _ s2 (wk_same (wk_any ((wk_any ((wk_any (Wk.refl _ _))))))))
 ·skip
  intro g6_0 J5 hJ5
  simp only [List.take_succ_cons, List.take_zero]
  simp only [anyAt_cons, anyAt_nil] at hJ5
  refine pops_off (b := false) rfl rfl (by simp only [upd_at, Nat.reduceEqDiff, if_true, if_false, g6_0]) (by decide) ?_
  refine pops_off (b := false) rfl rfl (by simp only [upd_at, Nat.reduceEqDiff, if_true, if_false, g6_0]) (by decide) ?_
  refine pops_off (b := false) rfl rfl (by simp only [upd_at, Nat.reduceEqDiff, if_true, if_false, g6_0]) (by decide) ?_
  refine pops_to rfl fun M hM => ?_
  simp only [pop, St.eval, constSlot, upd_at, Nat.reduceEqDiff, if_true, if_false, popIf, true_implies, false_implies, Bool.true_eq_false, Bool.false_eq_true, reduceCtorEq, true_and, and_true, g6_0]
  refine hM _ _ ?_
  clear hM M
  exact pops_done (hJ5 _ _ (Same.refl _) (wk_same (wk_any ((wk_any ((wk_any (Wk.refl _ _))))))))
 simp only [List.drop_succ_cons, List.drop_zero, anyAt_cons, anyAt_nil]
 intro hj5 sj5
 replace sj5 := Same.trans s1 sj5
 refine pops_mv (.inr rfl) rfl (by simp only [St.eval, upd_at, Nat.reduceEqDiff, if_true, if_false] <;> rfl) ?_
 refine pops_done (hR4 _ ?_)
 clear hR4 R4
 try simp only [thenK, scopeK]
 refine hN3 _ ?_
 clear hN3 N3
 refine pwp_ret ?_
 simp only [thenK, blockK, scopeK, bodyK]
 refine ⟨_, rfl, endFun sj5 ?_⟩
 try simp only [upd_at, Nat.reduceEqDiff, if_true, if_false]
 all_goals
  rw [letter_low]

theorem nm87 : (Tryd.f87.name == "runtime.NumGoroutine") = false := by kernel_rfl
theorem digit_fun (W0 : World) (c : UInt8) :
  PFun Tryd.prog W0 87 [.one (.val (.int .u8 c.toNat))] (.sv (.one (pbool (digitB c)))) := by
 intro h
 refine pcalls1 (n := 9) Tryd.func87 rfl nm87 rfl fun hb => ?_
 refine pwp_then fun N1 hN1 => ?_
 refine pwp_reg fun R2 hR2 => ?_
 refine pops_mv (.inr rfl) rfl (by simp only [St.eval, constSlot] <;> rfl) ?_
 refine pops_done (hR2 _ ?_)
 clear hR2 R2
 try simp only [thenK, scopeK]
 refine hN1 _ ?_
 clear hN1 N1
 refine pwp_then fun N3 hN3 => ?_
 refine pwp_reg fun R4 hR4 => ?_
 refine pops_mv (.inl rfl) rfl (by simp only [St.eval, upd_at, Nat.reduceEqDiff, if_true, if_false] <;> rfl) ?_
 refine pops_to rfl fun M hM => ?_
 simp only [pop, St.eval, constSlot, upd_at, Nat.reduceEqDiff, if_true, if_false, popBin, binK, intK, strK, eqK, eq_self, true_and, and_true]
 refine hM _ _ ?_
 clear hM M
 refine pops_mv (.inl rfl) rfl (by simp only [St.eval, upd_at, Nat.reduceEqDiff, if_true, if_false] <;> rfl) ?_
 apply pops_and0 3 5 8 [6, 7] (by simp only [upd_at, Nat.reduceEqDiff, if_true, if_false] <;> rfl)
 ·skip
  intro g5_0 J5 hJ5
  simp only [List.take_succ_cons, List.take_zero]
  simp only [anyAt_cons, anyAt_nil] at hJ5
  refine pops_mvg (.inl rfl) rfl rfl (by simp only [upd_at, Nat.reduceEqDiff, if_true, if_false, g5_0]) (by simp only [St.eval, upd_at, Nat.reduceEqDiff, if_true, if_false, g5_0] <;> rfl) ?_
  refine pops_do rfl rfl (by simp only [upd_at, Nat.reduceEqDiff, if_true, if_false, g5_0]) fun M hM => ?_
  simp only [pop, St.eval, constSlot, upd_at, Nat.reduceEqDiff, if_true, if_false, popBin, binK, intK, strK, eqK, eq_self, true_and, and_true, g5_0]
  refine hM _ _ ?_
  clear hM M
  refine pops_to rfl fun M hM => ?_
  simp only [pop, St.eval, constSlot, upd_at, Nat.reduceEqDiff, if_true, if_false, popIf, true_implies, false_implies, Bool.true_eq_false, Bool.false_eq_true, reduceCtorEq, true_and, and_true, g5_0]
  refine hM _ _ ?_
  clear hM M
  exact pops_done (hJ5 _ (wk_same (wk_any ((wk_any (Wk.refl _ _))))))
 ·skip
  intro g5_0 J5 hJ5
  simp only [List.take_succ_cons, List.take_zero]
  simp only [anyAt_cons, anyAt_nil] at hJ5
  refine pops_off (b := false) rfl rfl (by simp only [upd_at, Nat.reduceEqDiff, if_true, if_false, g5_0]) (by decide) ?_
  refine pops_off (b := false) rfl rfl (by simp only [upd_at, Nat.reduceEqDiff, if_true, if_false, g5_0]) (by decide) ?_
  refine pops_to rfl fun M hM => ?_
  simp only [pop, St.eval, constSlot, upd_at, Nat.reduceEqDiff, if_true, if_false, popIf, true_implies, false_implies, Bool.true_eq_false, Bool.false_eq_true, reduceCtorEq, true_and, and_true, g5_0]
  refine hM _ _ ?_
  clear hM M
  exact pops_done (hJ5 _ (wk_same (wk_any ((wk_any (Wk.refl _ _))))))
 simp only [List.drop_succ_cons, List.drop_zero, anyAt_cons, anyAt_nil]
 refine pops_mv (.inr rfl) rfl (by simp only [St.eval, upd_at, Nat.reduceEqDiff, if_true, if_false] <;> rfl) ?_
 refine pops_done (hR4 _ ?_)
 clear hR4 R4
 try simp only [thenK, scopeK]
 refine hN3 _ ?_
 clear hN3 N3
 refine pwp_ret ?_
 simp only [thenK, blockK, scopeK, bodyK]
 refine ⟨_, rfl, endFun (Same.refl _) ?_⟩
 try simp only [upd_at, Nat.reduceEqDiff, if_true, if_false]
 all_goals
  rw [digit_low]
end Go.Pw
