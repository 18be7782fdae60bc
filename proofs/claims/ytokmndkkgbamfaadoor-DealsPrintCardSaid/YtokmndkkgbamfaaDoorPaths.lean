import Derived.Test.YtokmndkkgbamfaaDoorAnyOf
import Derived.Test.YtokmndkkgbamfaaDoorNames
namespace Go.Pw
open Go Go.RowKit Go.Proofs
set_option maxRecDepth 100000
set_option linter.unusedSimpArgs false
set_option linter.unusedVariables false
theorem isName_fun (W0 : World) (s : List UInt8) :
  PFun Tryd.prog W0 23 [.one (pstr s)] (.sv (.one (pbool (isNameB s)))) := by
 intro h
 refine pcalls1 (n := 23) Tryd.func23 rfl nm23 rfl fun hb => ?_
 refine pwp_then fun N1 hN1 => ?_
 refine pwp_reg fun R2 hR2 => ?_
 refine pops_to rfl fun M hM => ?_
 simp only [pop, St.eval, constSlot, upd_at, Nat.reduceEqDiff, if_true, if_false, eq_self, true_and, and_true, str_list, str_size, str_app, str_cut, str_get]
 refine hM _ _ ?_
 clear hM M
 refine pops_done (hR2 _ ?_)
 clear hR2 R2
 try simp only [thenK, scopeK]
 refine hN1 _ ?_
 clear hN1 N1
 refine pwp_then fun N3 hN3 => ?_
 refine pwp_reg fun R4 hR4 => ?_
 refine pops_to rfl fun M hM => ?_
 simp only [pop, St.eval, constSlot, upd_at, Nat.reduceEqDiff, if_true, if_false, eq_self, true_and, and_true, str_list, str_size, str_app, str_cut, str_get]
 refine hM _ _ ?_
 clear hM M
 refine pops_to rfl fun M hM => ?_
 simp only [pop, St.eval, constSlot, upd_at, Nat.reduceEqDiff, if_true, if_false, popBin, binK, intK, strK, eqK, Tryd.underlying9, isPtr, eq_self, true_and, and_true, str_list, str_size, str_app, str_cut, str_get]
 refine hM _ _ ?_
 clear hM M
 refine pops_to rfl fun M hM => ?_
 simp only [pop, St.eval, constSlot, upd_at, Nat.reduceEqDiff, if_true, if_false, eq_self, true_and, and_true, str_list, str_size, str_app, str_cut, str_get]
 refine hM _ _ ?_
 clear hM M
 refine pops_split 5 (by simp only [upd_at, Nat.reduceEqDiff, if_true, if_false] <;> rfl) (fun g5_0 => ?_) (fun g5_0 => ?_)
 ·skip
  refine pops_do rfl rfl (by simp only [upd_at, Nat.reduceEqDiff, if_true, if_false, g5_0]) fun M hM => ?_
  simp only [pop, St.eval, constSlot, upd_at, Nat.reduceEqDiff, if_true, if_false, eq_self, true_and, and_true, str_list, str_size, str_app, str_cut, str_get, g5_0]
  refine hM _ _ ?_
  clear hM M
  refine pops_do rfl rfl (by simp only [upd_at, Nat.reduceEqDiff, if_true, if_false, g5_0]) fun M hM => ?_
  simp only [pop, St.eval, constSlot, upd_at, Nat.reduceEqDiff, if_true, if_false, popCall, List.toList_toArray, List.map_cons, List.map_nil, popBuiltin, popLen, lenOfSlot, List.length_map, Tryd.underlying9, eq_self, true_and, and_true, str_list, str_size, str_app, str_cut, str_get, g5_0]
  refine hM _ _ ?_
  clear hM M
  refine pops_do rfl rfl (by simp only [upd_at, Nat.reduceEqDiff, if_true, if_false, g5_0]) fun M hM => ?_
  simp only [pop, St.eval, constSlot, upd_at, Nat.reduceEqDiff, if_true, if_false, popBin, binK, intK, strK, eqK, eq_self, true_and, and_true, str_list, str_size, str_app, str_cut, str_get, g5_0]
  refine hM _ _ ?_
  clear hM M
  refine pops_to rfl fun M hM => ?_
  simp only [pop, St.eval, constSlot, upd_at, Nat.reduceEqDiff, if_true, if_false, popIf, true_implies, false_implies, Bool.true_eq_false, Bool.false_eq_true, reduceCtorEq, eq_self, true_and, and_true, str_list, str_size, str_app, str_cut, str_get, g5_0]
  refine hM _ _ ?_
  clear hM M
  refine pops_to rfl fun M hM => ?_
  simp only [pop, St.eval, constSlot, upd_at, Nat.reduceEqDiff, if_true, if_false, eq_self, true_and, and_true, str_list, str_size, str_app, str_cut, str_get, g5_0]
  refine hM _ _ ?_
  clear hM M
  refine pops_split 10 (by simp only [upd_at, Nat.reduceEqDiff, if_true, if_false, g5_0] <;> rfl) (fun g10_1 => ?_) (fun g10_1 => ?_)
  ·skip
   have hlen : s.length ≤ 255 := by have := of_decide_eq_true g10_1; omega
   refine pops_do rfl rfl (by simp only [upd_at, Nat.reduceEqDiff, if_true, if_false, g5_0, g10_1]) fun M hM => ?_
   simp only [pop, St.eval, constSlot, upd_at, Nat.reduceEqDiff, if_true, if_false, eq_self, true_and, and_true, str_list, str_size, str_app, str_cut, str_get, g5_0, g10_1]
   refine hM _ _ ?_
   clear hM M
   refine pops_do rfl rfl (by simp only [upd_at, Nat.reduceEqDiff, if_true, if_false, g5_0, g10_1]) fun M hM => ?_
   simp only [pop, St.eval, constSlot, upd_at, Nat.reduceEqDiff, if_true, if_false, popBin, binK, intK, strK, eqK, Tryd.underlying9, isPtr, eq_self, true_and, and_true, str_list, str_size, str_app, str_cut, str_get, g5_0, g10_1]
   refine hM _ _ ?_
   clear hM M
   refine pops_to rfl fun M hM => ?_
   simp only [pop, St.eval, constSlot, upd_at, Nat.reduceEqDiff, if_true, if_false, popIf, true_implies, false_implies, Bool.true_eq_false, Bool.false_eq_true, reduceCtorEq, eq_self, true_and, and_true, str_list, str_size, str_app, str_cut, str_get, g5_0, g10_1]
   refine hM _ _ ?_
   clear hM M
   refine pops_to rfl fun M hM => ?_
   simp only [pop, St.eval, constSlot, upd_at, Nat.reduceEqDiff, if_true, if_false, eq_self, true_and, and_true, str_list, str_size, str_app, str_cut, str_get, g5_0, g10_1]
   refine hM _ _ ?_
   clear hM M
   refine pops_split 14 (by simp only [upd_at, Nat.reduceEqDiff, if_true, if_false, g5_0, g10_1] <;> rfl) (fun g14_2 => ?_) (fun g14_2 => ?_)
   ·skip
    refine pops_do rfl rfl (by simp only [upd_at, Nat.reduceEqDiff, if_true, if_false, g5_0, g10_1, g14_2]) fun M hM => ?_
    simp only [pop, St.eval, constSlot, upd_at, Nat.reduceEqDiff, if_true, if_false, eq_self, true_and, and_true, str_list, str_size, str_app, str_cut, str_get, g5_0, g10_1, g14_2]
    refine hM _ _ ?_
    clear hM M
    refine pops_do rfl rfl (by simp only [upd_at, Nat.reduceEqDiff, if_true, if_false, g5_0, g10_1, g14_2]) fun M hM => ?_
    simp only [pop, St.eval, constSlot, upd_at, Nat.reduceEqDiff, if_true, if_false, popBin, binK, intK, strK, eqK, Tryd.underlying9, isPtr, eq_self, true_and, and_true, str_list, str_size, str_app, str_cut, str_get, g5_0, g10_1, g14_2]
    refine hM _ _ ?_
    clear hM M
    refine pops_to rfl fun M hM => ?_
    simp only [pop, St.eval, constSlot, upd_at, Nat.reduceEqDiff, if_true, if_false, popIf, true_implies, false_implies, Bool.true_eq_false, Bool.false_eq_true, reduceCtorEq, eq_self, true_and, and_true, str_list, str_size, str_app, str_cut, str_get, g5_0, g10_1, g14_2]
    refine hM _ _ ?_
    clear hM M
    refine pops_to rfl fun M hM => ?_
    simp only [pop, St.eval, constSlot, upd_at, Nat.reduceEqDiff, if_true, if_false, eq_self, true_and, and_true, str_list, str_size, str_app, str_cut, str_get, g5_0, g10_1, g14_2]
    refine hM _ _ ?_
    clear hM M
    refine pops_split 18 (by simp only [upd_at, Nat.reduceEqDiff, if_true, if_false, g5_0, g10_1, g14_2] <;> rfl) (fun g18_3 => ?_) (fun g18_3 => ?_)
    ·skip
     refine pops_do rfl rfl (by simp only [upd_at, Nat.reduceEqDiff, if_true, if_false, g5_0, g10_1, g14_2, g18_3]) fun M hM => ?_
     simp only [pop, St.eval, constSlot, upd_at, Nat.reduceEqDiff, if_true, if_false, eq_self, true_and, and_true, str_list, str_size, str_app, str_cut, str_get, g5_0, g10_1, g14_2, g18_3]
     refine hM _ _ ?_
     clear hM M
     refine pops_do rfl rfl (by simp only [upd_at, Nat.reduceEqDiff, if_true, if_false, g5_0, g10_1, g14_2, g18_3]) fun M hM => ?_
     simp only [pop, St.eval, constSlot, upd_at, Nat.reduceEqDiff, if_true, if_false, popCall, List.toList_toArray, List.map_cons, List.map_nil, svs, List.mapM_cons, List.mapM_nil, Option.bind_eq_bind, Option.bind_some, Option.pure_def, List.append_nil, List.cons_append, List.nil_append, eq_self, true_and, and_true, str_list, str_size, str_app, str_cut, str_get, g5_0, g10_1, g14_2, g18_3]
     refine PFun.use (containsAny_fun W0 s [0, 47] (by decide) (by decide) (by decide) (by omega)) fun h1 s1 => hM _ _ ?_
     replace s1 := Same.trans (Same.refl _) s1
     clear hM M
     refine pops_do rfl rfl (by simp only [upd_at, Nat.reduceEqDiff, if_true, if_false, g5_0, g10_1, g14_2, g18_3]) fun M hM => ?_
     simp only [pop, St.eval, constSlot, upd_at, Nat.reduceEqDiff, if_true, if_false, unK, eq_self, true_and, and_true, str_list, str_size, str_app, str_cut, str_get, g5_0, g10_1, g14_2, g18_3]
     refine hM _ _ ?_
     clear hM M
     refine pops_to rfl fun M hM => ?_
     simp only [pop, St.eval, constSlot, upd_at, Nat.reduceEqDiff, if_true, if_false, popIf, true_implies, false_implies, Bool.true_eq_false, Bool.false_eq_true, reduceCtorEq, eq_self, true_and, and_true, str_list, str_size, str_app, str_cut, str_get, g5_0, g10_1, g14_2, g18_3]
     refine hM _ _ ?_
     clear hM M
     refine pops_to rfl fun M hM => ?_
     simp only [pop, St.eval, constSlot, upd_at, Nat.reduceEqDiff, if_true, if_false, eq_self, true_and, and_true, str_list, str_size, str_app, str_cut, str_get, g5_0, g10_1, g14_2, g18_3]
     refine hM _ _ ?_
     clear hM M
     refine pops_done (hR4 _ ?_)
     clear hR4 R4
     try simp only [thenK, scopeK]
     refine hN3 _ ?_
     clear hN3 N3
     refine pwp_ret ?_
     simp only [thenK, blockK, scopeK, bodyK]
     refine ⟨_, rfl, endFun s1 ?_⟩
     try simp only [upd_at, Nat.reduceEqDiff, if_true, if_false, g5_0, g10_1, g14_2, g18_3]
     all_goals
      refine congrArg (fun b => Slot.sv (.one (pbool b))) ?_
      simp only [isNameB]
      generalize s.any [0, 47].contains = bb at *
      rw [Bool.eq_iff_iff]
      simp_all
      all_goals (intros; omega)
    ·skip
     refine pops_off (b := false) rfl rfl (by simp only [upd_at, Nat.reduceEqDiff, if_true, if_false, g5_0, g10_1, g14_2, g18_3]) (by decide) ?_
     refine pops_off (b := false) rfl rfl (by simp only [upd_at, Nat.reduceEqDiff, if_true, if_false, g5_0, g10_1, g14_2, g18_3]) (by decide) ?_
     refine pops_off (b := false) rfl rfl (by simp only [upd_at, Nat.reduceEqDiff, if_true, if_false, g5_0, g10_1, g14_2, g18_3]) (by decide) ?_
     refine pops_to rfl fun M hM => ?_
     simp only [pop, St.eval, constSlot, upd_at, Nat.reduceEqDiff, if_true, if_false, popIf, true_implies, false_implies, Bool.true_eq_false, Bool.false_eq_true, reduceCtorEq, eq_self, true_and, and_true, str_list, str_size, str_app, str_cut, str_get, g5_0, g10_1, g14_2, g18_3]
     refine hM _ _ ?_
     clear hM M
     refine pops_to rfl fun M hM => ?_
     simp only [pop, St.eval, constSlot, upd_at, Nat.reduceEqDiff, if_true, if_false, eq_self, true_and, and_true, str_list, str_size, str_app, str_cut, str_get, g5_0, g10_1, g14_2, g18_3]
     refine hM _ _ ?_
     clear hM M
     refine pops_done (hR4 _ ?_)
     clear hR4 R4
     try simp only [thenK, scopeK]
     refine hN3 _ ?_
     clear hN3 N3
     refine pwp_ret ?_
     simp only [thenK, blockK, scopeK, bodyK]
     refine ⟨_, rfl, endFun (Same.refl _) ?_⟩
     try simp only [upd_at, Nat.reduceEqDiff, if_true, if_false, g5_0, g10_1, g14_2, g18_3]
     all_goals
      refine congrArg (fun b => Slot.sv (.one (pbool b))) ?_
      simp only [isNameB]
      generalize s.any [0, 47].contains = bb at *
      rw [Bool.eq_iff_iff]
      simp_all
      all_goals (intros; omega)
   ·skip
    refine pops_off (b := false) rfl rfl (by simp only [upd_at, Nat.reduceEqDiff, if_true, if_false, g5_0, g10_1, g14_2]) (by decide) ?_
    refine pops_off (b := false) rfl rfl (by simp only [upd_at, Nat.reduceEqDiff, if_true, if_false, g5_0, g10_1, g14_2]) (by decide) ?_
    refine pops_to rfl fun M hM => ?_
    simp only [pop, St.eval, constSlot, upd_at, Nat.reduceEqDiff, if_true, if_false, popIf, true_implies, false_implies, Bool.true_eq_false, Bool.false_eq_true, reduceCtorEq, eq_self, true_and, and_true, str_list, str_size, str_app, str_cut, str_get, g5_0, g10_1, g14_2]
    refine hM _ _ ?_
    clear hM M
    refine pops_to rfl fun M hM => ?_
    simp only [pop, St.eval, constSlot, upd_at, Nat.reduceEqDiff, if_true, if_false, eq_self, true_and, and_true, str_list, str_size, str_app, str_cut, str_get, g5_0, g10_1, g14_2]
    refine hM _ _ ?_
    clear hM M
    refine pops_off (b := false) rfl rfl (by simp only [upd_at, Nat.reduceEqDiff, if_true, if_false, g5_0, g10_1, g14_2]) (by decide) ?_
    refine pops_off (b := false) rfl rfl (by simp only [upd_at, Nat.reduceEqDiff, if_true, if_false, g5_0, g10_1, g14_2]) (by decide) ?_
    refine pops_off (b := false) rfl rfl (by simp only [upd_at, Nat.reduceEqDiff, if_true, if_false, g5_0, g10_1, g14_2]) (by decide) ?_
    refine pops_to rfl fun M hM => ?_
    simp only [pop, St.eval, constSlot, upd_at, Nat.reduceEqDiff, if_true, if_false, popIf, true_implies, false_implies, Bool.true_eq_false, Bool.false_eq_true, reduceCtorEq, eq_self, true_and, and_true, str_list, str_size, str_app, str_cut, str_get, g5_0, g10_1, g14_2]
    refine hM _ _ ?_
    clear hM M
    refine pops_to rfl fun M hM => ?_
    simp only [pop, St.eval, constSlot, upd_at, Nat.reduceEqDiff, if_true, if_false, eq_self, true_and, and_true, str_list, str_size, str_app, str_cut, str_get, g5_0, g10_1, g14_2]
    refine hM _ _ ?_
    clear hM M
    refine pops_done (hR4 _ ?_)
    clear hR4 R4
    try simp only [thenK, scopeK]
    refine hN3 _ ?_
    clear hN3 N3
    refine pwp_ret ?_
    simp only [thenK, blockK, scopeK, bodyK]
    refine ⟨_, rfl, endFun (Same.refl _) ?_⟩
    try simp only [upd_at, Nat.reduceEqDiff, if_true, if_false, g5_0, g10_1, g14_2]
    all_goals
     refine congrArg (fun b => Slot.sv (.one (pbool b))) ?_
     simp only [isNameB]
     generalize s.any [0, 47].contains = bb at *
     rw [Bool.eq_iff_iff]
     simp_all
     all_goals (intros; omega)
  ·skip
   have hlen : ¬ s.length ≤ 255 := by have := of_decide_eq_false g10_1; omega
   refine pops_off (b := false) rfl rfl (by simp only [upd_at, Nat.reduceEqDiff, if_true, if_false, g5_0, g10_1]) (by decide) ?_
   refine pops_off (b := false) rfl rfl (by simp only [upd_at, Nat.reduceEqDiff, if_true, if_false, g5_0, g10_1]) (by decide) ?_
   refine pops_to rfl fun M hM => ?_
   simp only [pop, St.eval, constSlot, upd_at, Nat.reduceEqDiff, if_true, if_false, popIf, true_implies, false_implies, Bool.true_eq_false, Bool.false_eq_true, reduceCtorEq, eq_self, true_and, and_true, str_list, str_size, str_app, str_cut, str_get, g5_0, g10_1]
   refine hM _ _ ?_
   clear hM M
   refine pops_to rfl fun M hM => ?_
   simp only [pop, St.eval, constSlot, upd_at, Nat.reduceEqDiff, if_true, if_false, eq_self, true_and, and_true, str_list, str_size, str_app, str_cut, str_get, g5_0, g10_1]
   refine hM _ _ ?_
   clear hM M
   refine pops_off (b := false) rfl rfl (by simp only [upd_at, Nat.reduceEqDiff, if_true, if_false, g5_0, g10_1]) (by decide) ?_
   refine pops_off (b := false) rfl rfl (by simp only [upd_at, Nat.reduceEqDiff, if_true, if_false, g5_0, g10_1]) (by decide) ?_
   refine pops_to rfl fun M hM => ?_
   simp only [pop, St.eval, constSlot, upd_at, Nat.reduceEqDiff, if_true, if_false, popIf, true_implies, false_implies, Bool.true_eq_false, Bool.false_eq_true, reduceCtorEq, eq_self, true_and, and_true, str_list, str_size, str_app, str_cut, str_get, g5_0, g10_1]
   refine hM _ _ ?_
   clear hM M
   refine pops_to rfl fun M hM => ?_
   simp only [pop, St.eval, constSlot, upd_at, Nat.reduceEqDiff, if_true, if_false, eq_self, true_and, and_true, str_list, str_size, str_app, str_cut, str_get, g5_0, g10_1]
   refine hM _ _ ?_
   clear hM M
   refine pops_off (b := false) rfl rfl (by simp only [upd_at, Nat.reduceEqDiff, if_true, if_false, g5_0, g10_1]) (by decide) ?_
   refine pops_off (b := false) rfl rfl (by simp only [upd_at, Nat.reduceEqDiff, if_true, if_false, g5_0, g10_1]) (by decide) ?_
   refine pops_off (b := false) rfl rfl (by simp only [upd_at, Nat.reduceEqDiff, if_true, if_false, g5_0, g10_1]) (by decide) ?_
   refine pops_to rfl fun M hM => ?_
   simp only [pop, St.eval, constSlot, upd_at, Nat.reduceEqDiff, if_true, if_false, popIf, true_implies, false_implies, Bool.true_eq_false, Bool.false_eq_true, reduceCtorEq, eq_self, true_and, and_true, str_list, str_size, str_app, str_cut, str_get, g5_0, g10_1]
   refine hM _ _ ?_
   clear hM M
   refine pops_to rfl fun M hM => ?_
   simp only [pop, St.eval, constSlot, upd_at, Nat.reduceEqDiff, if_true, if_false, eq_self, true_and, and_true, str_list, str_size, str_app, str_cut, str_get, g5_0, g10_1]
   refine hM _ _ ?_
   clear hM M
   refine pops_done (hR4 _ ?_)
   clear hR4 R4
   try simp only [thenK, scopeK]
   refine hN3 _ ?_
   clear hN3 N3
   refine pwp_ret ?_
   simp only [thenK, blockK, scopeK, bodyK]
   refine ⟨_, rfl, endFun (Same.refl _) ?_⟩
   try simp only [upd_at, Nat.reduceEqDiff, if_true, if_false, g5_0, g10_1]
   all_goals
    refine congrArg (fun b => Slot.sv (.one (pbool b))) ?_
    simp only [isNameB]
    generalize s.any [0, 47].contains = bb at *
    rw [Bool.eq_iff_iff]
    simp_all
    all_goals (intros; omega)
 ·skip
  refine pops_off (b := false) rfl rfl (by simp only [upd_at, Nat.reduceEqDiff, if_true, if_false, g5_0]) (by decide) ?_
  refine pops_off (b := false) rfl rfl (by simp only [upd_at, Nat.reduceEqDiff, if_true, if_false, g5_0]) (by decide) ?_
  refine pops_off (b := false) rfl rfl (by simp only [upd_at, Nat.reduceEqDiff, if_true, if_false, g5_0]) (by decide) ?_
  refine pops_to rfl fun M hM => ?_
  simp only [pop, St.eval, constSlot, upd_at, Nat.reduceEqDiff, if_true, if_false, popIf, true_implies, false_implies, Bool.true_eq_false, Bool.false_eq_true, reduceCtorEq, eq_self, true_and, and_true, str_list, str_size, str_app, str_cut, str_get, g5_0]
  refine hM _ _ ?_
  clear hM M
  refine pops_to rfl fun M hM => ?_
  simp only [pop, St.eval, constSlot, upd_at, Nat.reduceEqDiff, if_true, if_false, eq_self, true_and, and_true, str_list, str_size, str_app, str_cut, str_get, g5_0]
  refine hM _ _ ?_
  clear hM M
  refine pops_off (b := false) rfl rfl (by simp only [upd_at, Nat.reduceEqDiff, if_true, if_false, g5_0]) (by decide) ?_
  refine pops_off (b := false) rfl rfl (by simp only [upd_at, Nat.reduceEqDiff, if_true, if_false, g5_0]) (by decide) ?_
  refine pops_to rfl fun M hM => ?_
  simp only [pop, St.eval, constSlot, upd_at, Nat.reduceEqDiff, if_true, if_false, popIf, true_implies, false_implies, Bool.true_eq_false, Bool.false_eq_true, reduceCtorEq, eq_self, true_and, and_true, str_list, str_size, str_app, str_cut, str_get, g5_0]
  refine hM _ _ ?_
  clear hM M
  refine pops_to rfl fun M hM => ?_
  simp only [pop, St.eval, constSlot, upd_at, Nat.reduceEqDiff, if_true, if_false, eq_self, true_and, and_true, str_list, str_size, str_app, str_cut, str_get, g5_0]
  refine hM _ _ ?_
  clear hM M
  refine pops_off (b := false) rfl rfl (by simp only [upd_at, Nat.reduceEqDiff, if_true, if_false, g5_0]) (by decide) ?_
  refine pops_off (b := false) rfl rfl (by simp only [upd_at, Nat.reduceEqDiff, if_true, if_false, g5_0]) (by decide) ?_
  refine pops_to rfl fun M hM => ?_
  simp only [pop, St.eval, constSlot, upd_at, Nat.reduceEqDiff, if_true, if_false, popIf, true_implies, false_implies, Bool.true_eq_false, Bool.false_eq_true, reduceCtorEq, eq_self, true_and, and_true, str_list, str_size, str_app, str_cut, str_get, g5_0]
  refine hM _ _ ?_
  clear hM M
  refine pops_to rfl fun M hM => ?_
  simp only [pop, St.eval, constSlot, upd_at, Nat.reduceEqDiff, if_true, if_false, eq_self, true_and, and_true, str_list, str_size, str_app, str_cut, str_get, g5_0]
  refine hM _ _ ?_
  clear hM M
  refine pops_off (b := false) rfl rfl (by simp only [upd_at, Nat.reduceEqDiff, if_true, if_false, g5_0]) (by decide) ?_
  refine pops_off (b := false) rfl rfl (by simp only [upd_at, Nat.reduceEqDiff, if_true, if_false, g5_0]) (by decide) ?_
  refine pops_off (b := false) rfl rfl (by simp only [upd_at, Nat.reduceEqDiff, if_true, if_false, g5_0]) (by decide) ?_
  refine pops_to rfl fun M hM => ?_
  simp only [pop, St.eval, constSlot, upd_at, Nat.reduceEqDiff, if_true, if_false, popIf, true_implies, false_implies, Bool.true_eq_false, Bool.false_eq_true, reduceCtorEq, eq_self, true_and, and_true, str_list, str_size, str_app, str_cut, str_get, g5_0]
  refine hM _ _ ?_
  clear hM M
  refine pops_to rfl fun M hM => ?_
  simp only [pop, St.eval, constSlot, upd_at, Nat.reduceEqDiff, if_true, if_false, eq_self, true_and, and_true, str_list, str_size, str_app, str_cut, str_get, g5_0]
  refine hM _ _ ?_
  clear hM M
  refine pops_done (hR4 _ ?_)
  clear hR4 R4
  try simp only [thenK, scopeK]
  refine hN3 _ ?_
  clear hN3 N3
  refine pwp_ret ?_
  simp only [thenK, blockK, scopeK, bodyK]
  refine ⟨_, rfl, endFun (Same.refl _) ?_⟩
  try simp only [upd_at, Nat.reduceEqDiff, if_true, if_false, g5_0]
  all_goals
   refine congrArg (fun b => Slot.sv (.one (pbool b))) ?_
   simp only [isNameB]
   generalize s.any [0, 47].contains = bb at *
   rw [Bool.eq_iff_iff]
   simp_all
   all_goals (intros; omega)

theorem nm25 : (Tryd.f25.name == "runtime.NumGoroutine") = false := by kernel_rfl
theorem isNameRef_fun (W0 : World) (s : List UInt8) :
  PFun Tryd.prog W0 25 [.one (pstr s)] (.sv (.one (pbool (isNameB s)))) := by
 intro h
 refine pcalls1 (n := 23) Tryd.func25 rfl nm25 rfl fun hb => ?_
 refine pwp_then fun N1 hN1 => ?_
 refine pwp_reg fun R2 hR2 => ?_
 refine pops_to rfl fun M hM => ?_
 simp only [pop, St.eval, constSlot, upd_at, Nat.reduceEqDiff, if_true, if_false, eq_self, true_and, and_true, str_list, str_size, str_app, str_cut, str_get]
 refine hM _ _ ?_
 clear hM M
 refine pops_done (hR2 _ ?_)
 clear hR2 R2
 try simp only [thenK, scopeK]
 refine hN1 _ ?_
 clear hN1 N1
 refine pwp_then fun N3 hN3 => ?_
 refine pwp_reg fun R4 hR4 => ?_
 refine pops_to rfl fun M hM => ?_
 simp only [pop, St.eval, constSlot, upd_at, Nat.reduceEqDiff, if_true, if_false, eq_self, true_and, and_true, str_list, str_size, str_app, str_cut, str_get]
 refine hM _ _ ?_
 clear hM M
 refine pops_to rfl fun M hM => ?_
 simp only [pop, St.eval, constSlot, upd_at, Nat.reduceEqDiff, if_true, if_false, popBin, binK, intK, strK, eqK, Tryd.underlying9, isPtr, eq_self, true_and, and_true, str_list, str_size, str_app, str_cut, str_get]
 refine hM _ _ ?_
 clear hM M
 refine pops_to rfl fun M hM => ?_
 simp only [pop, St.eval, constSlot, upd_at, Nat.reduceEqDiff, if_true, if_false, eq_self, true_and, and_true, str_list, str_size, str_app, str_cut, str_get]
 refine hM _ _ ?_
 clear hM M
 refine pops_split 5 (by simp only [upd_at, Nat.reduceEqDiff, if_true, if_false] <;> rfl) (fun g5_0 => ?_) (fun g5_0 => ?_)
 ·skip
  refine pops_do rfl rfl (by simp only [upd_at, Nat.reduceEqDiff, if_true, if_false, g5_0]) fun M hM => ?_
  simp only [pop, St.eval, constSlot, upd_at, Nat.reduceEqDiff, if_true, if_false, eq_self, true_and, and_true, str_list, str_size, str_app, str_cut, str_get, g5_0]
  refine hM _ _ ?_
  clear hM M
  refine pops_do rfl rfl (by simp only [upd_at, Nat.reduceEqDiff, if_true, if_false, g5_0]) fun M hM => ?_
  simp only [pop, St.eval, constSlot, upd_at, Nat.reduceEqDiff, if_true, if_false, popCall, List.toList_toArray, List.map_cons, List.map_nil, popBuiltin, popLen, lenOfSlot, List.length_map, Tryd.underlying9, eq_self, true_and, and_true, str_list, str_size, str_app, str_cut, str_get, g5_0]
  refine hM _ _ ?_
  clear hM M
  refine pops_do rfl rfl (by simp only [upd_at, Nat.reduceEqDiff, if_true, if_false, g5_0]) fun M hM => ?_
  simp only [pop, St.eval, constSlot, upd_at, Nat.reduceEqDiff, if_true, if_false, popBin, binK, intK, strK, eqK, eq_self, true_and, and_true, str_list, str_size, str_app, str_cut, str_get, g5_0]
  refine hM _ _ ?_
  clear hM M
  refine pops_to rfl fun M hM => ?_
  simp only [pop, St.eval, constSlot, upd_at, Nat.reduceEqDiff, if_true, if_false, popIf, true_implies, false_implies, Bool.true_eq_false, Bool.false_eq_true, reduceCtorEq, eq_self, true_and, and_true, str_list, str_size, str_app, str_cut, str_get, g5_0]
  refine hM _ _ ?_
  clear hM M
  refine pops_to rfl fun M hM => ?_
  simp only [pop, St.eval, constSlot, upd_at, Nat.reduceEqDiff, if_true, if_false, eq_self, true_and, and_true, str_list, str_size, str_app, str_cut, str_get, g5_0]
  refine hM _ _ ?_
  clear hM M
  refine pops_split 10 (by simp only [upd_at, Nat.reduceEqDiff, if_true, if_false, g5_0] <;> rfl) (fun g10_1 => ?_) (fun g10_1 => ?_)
  ·skip
   have hlen : s.length ≤ 255 := by have := of_decide_eq_true g10_1; omega
   refine pops_do rfl rfl (by simp only [upd_at, Nat.reduceEqDiff, if_true, if_false, g5_0, g10_1]) fun M hM => ?_
   simp only [pop, St.eval, constSlot, upd_at, Nat.reduceEqDiff, if_true, if_false, eq_self, true_and, and_true, str_list, str_size, str_app, str_cut, str_get, g5_0, g10_1]
   refine hM _ _ ?_
   clear hM M
   refine pops_do rfl rfl (by simp only [upd_at, Nat.reduceEqDiff, if_true, if_false, g5_0, g10_1]) fun M hM => ?_
   simp only [pop, St.eval, constSlot, upd_at, Nat.reduceEqDiff, if_true, if_false, popCall, List.toList_toArray, List.map_cons, List.map_nil, svs, List.mapM_cons, List.mapM_nil, Option.bind_eq_bind, Option.bind_some, Option.pure_def, List.append_nil, List.cons_append, List.nil_append, eq_self, true_and, and_true, str_list, str_size, str_app, str_cut, str_get, g5_0, g10_1]
   refine PFun.use (containsAny_fun W0 s [0, 47] (by decide) (by decide) (by decide) (by omega)) fun h1 s1 => hM _ _ ?_
   replace s1 := Same.trans (Same.refl _) s1
   clear hM M
   refine pops_do rfl rfl (by simp only [upd_at, Nat.reduceEqDiff, if_true, if_false, g5_0, g10_1]) fun M hM => ?_
   simp only [pop, St.eval, constSlot, upd_at, Nat.reduceEqDiff, if_true, if_false, unK, eq_self, true_and, and_true, str_list, str_size, str_app, str_cut, str_get, g5_0, g10_1]
   refine hM _ _ ?_
   clear hM M
   refine pops_to rfl fun M hM => ?_
   simp only [pop, St.eval, constSlot, upd_at, Nat.reduceEqDiff, if_true, if_false, popIf, true_implies, false_implies, Bool.true_eq_false, Bool.false_eq_true, reduceCtorEq, eq_self, true_and, and_true, str_list, str_size, str_app, str_cut, str_get, g5_0, g10_1]
   refine hM _ _ ?_
   clear hM M
   refine pops_to rfl fun M hM => ?_
   simp only [pop, St.eval, constSlot, upd_at, Nat.reduceEqDiff, if_true, if_false, eq_self, true_and, and_true, str_list, str_size, str_app, str_cut, str_get, g5_0, g10_1]
   refine hM _ _ ?_
   clear hM M
   refine pops_split 15 (by simp only [upd_at, Nat.reduceEqDiff, if_true, if_false, g5_0, g10_1] <;> rfl) (fun g15_2 => ?_) (fun g15_2 => ?_)
   ·skip
    refine pops_do rfl rfl (by simp only [upd_at, Nat.reduceEqDiff, if_true, if_false, g5_0, g10_1, g15_2]) fun M hM => ?_
    simp only [pop, St.eval, constSlot, upd_at, Nat.reduceEqDiff, if_true, if_false, eq_self, true_and, and_true, str_list, str_size, str_app, str_cut, str_get, g5_0, g10_1, g15_2]
    refine hM _ _ ?_
    clear hM M
    refine pops_do rfl rfl (by simp only [upd_at, Nat.reduceEqDiff, if_true, if_false, g5_0, g10_1, g15_2]) fun M hM => ?_
    simp only [pop, St.eval, constSlot, upd_at, Nat.reduceEqDiff, if_true, if_false, popBin, binK, intK, strK, eqK, Tryd.underlying9, isPtr, eq_self, true_and, and_true, str_list, str_size, str_app, str_cut, str_get, g5_0, g10_1, g15_2]
    refine hM _ _ ?_
    clear hM M
    refine pops_to rfl fun M hM => ?_
    simp only [pop, St.eval, constSlot, upd_at, Nat.reduceEqDiff, if_true, if_false, popIf, true_implies, false_implies, Bool.true_eq_false, Bool.false_eq_true, reduceCtorEq, eq_self, true_and, and_true, str_list, str_size, str_app, str_cut, str_get, g5_0, g10_1, g15_2]
    refine hM _ _ ?_
    clear hM M
    refine pops_to rfl fun M hM => ?_
    simp only [pop, St.eval, constSlot, upd_at, Nat.reduceEqDiff, if_true, if_false, eq_self, true_and, and_true, str_list, str_size, str_app, str_cut, str_get, g5_0, g10_1, g15_2]
    refine hM _ _ ?_
    clear hM M
    refine pops_split 19 (by simp only [upd_at, Nat.reduceEqDiff, if_true, if_false, g5_0, g10_1, g15_2] <;> rfl) (fun g19_3 => ?_) (fun g19_3 => ?_)
    ·skip
     refine pops_do rfl rfl (by simp only [upd_at, Nat.reduceEqDiff, if_true, if_false, g5_0, g10_1, g15_2, g19_3]) fun M hM => ?_
     simp only [pop, St.eval, constSlot, upd_at, Nat.reduceEqDiff, if_true, if_false, eq_self, true_and, and_true, str_list, str_size, str_app, str_cut, str_get, g5_0, g10_1, g15_2, g19_3]
     refine hM _ _ ?_
     clear hM M
     refine pops_do rfl rfl (by simp only [upd_at, Nat.reduceEqDiff, if_true, if_false, g5_0, g10_1, g15_2, g19_3]) fun M hM => ?_
     simp only [pop, St.eval, constSlot, upd_at, Nat.reduceEqDiff, if_true, if_false, popBin, binK, intK, strK, eqK, Tryd.underlying9, isPtr, eq_self, true_and, and_true, str_list, str_size, str_app, str_cut, str_get, g5_0, g10_1, g15_2, g19_3]
     refine hM _ _ ?_
     clear hM M
     refine pops_to rfl fun M hM => ?_
     simp only [pop, St.eval, constSlot, upd_at, Nat.reduceEqDiff, if_true, if_false, popIf, true_implies, false_implies, Bool.true_eq_false, Bool.false_eq_true, reduceCtorEq, eq_self, true_and, and_true, str_list, str_size, str_app, str_cut, str_get, g5_0, g10_1, g15_2, g19_3]
     refine hM _ _ ?_
     clear hM M
     refine pops_to rfl fun M hM => ?_
     simp only [pop, St.eval, constSlot, upd_at, Nat.reduceEqDiff, if_true, if_false, eq_self, true_and, and_true, str_list, str_size, str_app, str_cut, str_get, g5_0, g10_1, g15_2, g19_3]
     refine hM _ _ ?_
     clear hM M
     refine pops_done (hR4 _ ?_)
     clear hR4 R4
     try simp only [thenK, scopeK]
     refine hN3 _ ?_
     clear hN3 N3
     refine pwp_ret ?_
     simp only [thenK, blockK, scopeK, bodyK]
     refine ⟨_, rfl, endFun s1 ?_⟩
     try simp only [upd_at, Nat.reduceEqDiff, if_true, if_false, g5_0, g10_1, g15_2, g19_3]
     all_goals
      refine congrArg (fun b => Slot.sv (.one (pbool b))) ?_
      simp only [isNameB]
      generalize s.any [0, 47].contains = bb at *
      rw [Bool.eq_iff_iff]
      simp_all
      all_goals (intros; omega)
    ·skip
     refine pops_off (b := false) rfl rfl (by simp only [upd_at, Nat.reduceEqDiff, if_true, if_false, g5_0, g10_1, g15_2, g19_3]) (by decide) ?_
     refine pops_off (b := false) rfl rfl (by simp only [upd_at, Nat.reduceEqDiff, if_true, if_false, g5_0, g10_1, g15_2, g19_3]) (by decide) ?_
     refine pops_to rfl fun M hM => ?_
     simp only [pop, St.eval, constSlot, upd_at, Nat.reduceEqDiff, if_true, if_false, popIf, true_implies, false_implies, Bool.true_eq_false, Bool.false_eq_true, reduceCtorEq, eq_self, true_and, and_true, str_list, str_size, str_app, str_cut, str_get, g5_0, g10_1, g15_2, g19_3]
     refine hM _ _ ?_
     clear hM M
     refine pops_to rfl fun M hM => ?_
     simp only [pop, St.eval, constSlot, upd_at, Nat.reduceEqDiff, if_true, if_false, eq_self, true_and, and_true, str_list, str_size, str_app, str_cut, str_get, g5_0, g10_1, g15_2, g19_3]
     refine hM _ _ ?_
     clear hM M
     refine pops_done (hR4 _ ?_)
     clear hR4 R4
     try simp only [thenK, scopeK]
     refine hN3 _ ?_
     clear hN3 N3
     refine pwp_ret ?_
     simp only [thenK, blockK, scopeK, bodyK]
     refine ⟨_, rfl, endFun s1 ?_⟩
     try simp only [upd_at, Nat.reduceEqDiff, if_true, if_false, g5_0, g10_1, g15_2, g19_3]
     all_goals
      refine congrArg (fun b => Slot.sv (.one (pbool b))) ?_
      simp only [isNameB]
      generalize s.any [0, 47].contains = bb at *
      rw [Bool.eq_iff_iff]
      simp_all
      all_goals (intros; omega)
   ·skip
    refine pops_off (b := false) rfl rfl (by simp only [upd_at, Nat.reduceEqDiff, if_true, if_false, g5_0, g10_1, g15_2]) (by decide) ?_
    refine pops_off (b := false) rfl rfl (by simp only [upd_at, Nat.reduceEqDiff, if_true, if_false, g5_0, g10_1, g15_2]) (by decide) ?_
    refine pops_to rfl fun M hM => ?_
    simp only [pop, St.eval, constSlot, upd_at, Nat.reduceEqDiff, if_true, if_false, popIf, true_implies, false_implies, Bool.true_eq_false, Bool.false_eq_true, reduceCtorEq, eq_self, true_and, and_true, str_list, str_size, str_app, str_cut, str_get, g5_0, g10_1, g15_2]
    refine hM _ _ ?_
    clear hM M
    refine pops_to rfl fun M hM => ?_
    simp only [pop, St.eval, constSlot, upd_at, Nat.reduceEqDiff, if_true, if_false, eq_self, true_and, and_true, str_list, str_size, str_app, str_cut, str_get, g5_0, g10_1, g15_2]
    refine hM _ _ ?_
    clear hM M
    refine pops_off (b := false) rfl rfl (by simp only [upd_at, Nat.reduceEqDiff, if_true, if_false, g5_0, g10_1, g15_2]) (by decide) ?_
    refine pops_off (b := false) rfl rfl (by simp only [upd_at, Nat.reduceEqDiff, if_true, if_false, g5_0, g10_1, g15_2]) (by decide) ?_
    refine pops_to rfl fun M hM => ?_
    simp only [pop, St.eval, constSlot, upd_at, Nat.reduceEqDiff, if_true, if_false, popIf, true_implies, false_implies, Bool.true_eq_false, Bool.false_eq_true, reduceCtorEq, eq_self, true_and, and_true, str_list, str_size, str_app, str_cut, str_get, g5_0, g10_1, g15_2]
    refine hM _ _ ?_
    clear hM M
    refine pops_to rfl fun M hM => ?_
    simp only [pop, St.eval, constSlot, upd_at, Nat.reduceEqDiff, if_true, if_false, eq_self, true_and, and_true, str_list, str_size, str_app, str_cut, str_get, g5_0, g10_1, g15_2]
    refine hM _ _ ?_
    clear hM M
    refine pops_done (hR4 _ ?_)
    clear hR4 R4
    try simp only [thenK, scopeK]
    refine hN3 _ ?_
    clear hN3 N3
    refine pwp_ret ?_
    simp only [thenK, blockK, scopeK, bodyK]
    refine ⟨_, rfl, endFun s1 ?_⟩
    try simp only [upd_at, Nat.reduceEqDiff, if_true, if_false, g5_0, g10_1, g15_2]
    all_goals
     refine congrArg (fun b => Slot.sv (.one (pbool b))) ?_
     simp only [isNameB]
     generalize s.any [0, 47].contains = bb at *
     rw [Bool.eq_iff_iff]
     simp_all
     all_goals (intros; omega)
  ·skip
   have hlen : ¬ s.length ≤ 255 := by have := of_decide_eq_false g10_1; omega
   refine pops_off (b := false) rfl rfl (by simp only [upd_at, Nat.reduceEqDiff, if_true, if_false, g5_0, g10_1]) (by decide) ?_
   refine pops_off (b := false) rfl rfl (by simp only [upd_at, Nat.reduceEqDiff, if_true, if_false, g5_0, g10_1]) (by decide) ?_
   refine pops_off (b := false) rfl rfl (by simp only [upd_at, Nat.reduceEqDiff, if_true, if_false, g5_0, g10_1]) (by decide) ?_
   refine pops_to rfl fun M hM => ?_
   simp only [pop, St.eval, constSlot, upd_at, Nat.reduceEqDiff, if_true, if_false, popIf, true_implies, false_implies, Bool.true_eq_false, Bool.false_eq_true, reduceCtorEq, eq_self, true_and, and_true, str_list, str_size, str_app, str_cut, str_get, g5_0, g10_1]
   refine hM _ _ ?_
   clear hM M
   refine pops_to rfl fun M hM => ?_
   simp only [pop, St.eval, constSlot, upd_at, Nat.reduceEqDiff, if_true, if_false, eq_self, true_and, and_true, str_list, str_size, str_app, str_cut, str_get, g5_0, g10_1]
   refine hM _ _ ?_
   clear hM M
   refine pops_off (b := false) rfl rfl (by simp only [upd_at, Nat.reduceEqDiff, if_true, if_false, g5_0, g10_1]) (by decide) ?_
   refine pops_off (b := false) rfl rfl (by simp only [upd_at, Nat.reduceEqDiff, if_true, if_false, g5_0, g10_1]) (by decide) ?_
   refine pops_to rfl fun M hM => ?_
   simp only [pop, St.eval, constSlot, upd_at, Nat.reduceEqDiff, if_true, if_false, popIf, true_implies, false_implies, Bool.true_eq_false, Bool.false_eq_true, reduceCtorEq, eq_self, true_and, and_true, str_list, str_size, str_app, str_cut, str_get, g5_0, g10_1]
   refine hM _ _ ?_
   clear hM M
   refine pops_to rfl fun M hM => ?_
   simp only [pop, St.eval, constSlot, upd_at, Nat.reduceEqDiff, if_true, if_false, eq_self, true_and, and_true, str_list, str_size, str_app, str_cut, str_get, g5_0, g10_1]
   refine hM _ _ ?_
   clear hM M
   refine pops_off (b := false) rfl rfl (by simp only [upd_at, Nat.reduceEqDiff, if_true, if_false, g5_0, g10_1]) (by decide) ?_
   refine pops_off (b := false) rfl rfl (by simp only [upd_at, Nat.reduceEqDiff, if_true, if_false, g5_0, g10_1]) (by decide) ?_
   refine pops_to rfl fun M hM => ?_
   simp only [pop, St.eval, constSlot, upd_at, Nat.reduceEqDiff, if_true, if_false, popIf, true_implies, false_implies, Bool.true_eq_false, Bool.false_eq_true, reduceCtorEq, eq_self, true_and, and_true, str_list, str_size, str_app, str_cut, str_get, g5_0, g10_1]
   refine hM _ _ ?_
   clear hM M
   refine pops_to rfl fun M hM => ?_
   simp only [pop, St.eval, constSlot, upd_at, Nat.reduceEqDiff, if_true, if_false, eq_self, true_and, and_true, str_list, str_size, str_app, str_cut, str_get, g5_0, g10_1]
   refine hM _ _ ?_
   clear hM M
   refine pops_done (hR4 _ ?_)
   clear hR4 R4
   try simp only [thenK, scopeK]
   refine hN3 _ ?_
   clear hN3 N3
   refine pwp_ret ?_
   simp only [thenK, blockK, scopeK, bodyK]
   refine ⟨_, rfl, endFun (Same.refl _) ?_⟩
   try simp only [upd_at, Nat.reduceEqDiff, if_true, if_false, g5_0, g10_1]
   all_goals
    refine congrArg (fun b => Slot.sv (.one (pbool b))) ?_
    simp only [isNameB]
    generalize s.any [0, 47].contains = bb at *
    rw [Bool.eq_iff_iff]
    simp_all
    all_goals (intros; omega)
 ·skip
  refine pops_off (b := false) rfl rfl (by simp only [upd_at, Nat.reduceEqDiff, if_true, if_false, g5_0]) (by decide) ?_
  refine pops_off (b := false) rfl rfl (by simp only [upd_at, Nat.reduceEqDiff, if_true, if_false, g5_0]) (by decide) ?_
  refine pops_off (b := false) rfl rfl (by simp only [upd_at, Nat.reduceEqDiff, if_true, if_false, g5_0]) (by decide) ?_
  refine pops_to rfl fun M hM => ?_
  simp only [pop, St.eval, constSlot, upd_at, Nat.reduceEqDiff, if_true, if_false, popIf, true_implies, false_implies, Bool.true_eq_false, Bool.false_eq_true, reduceCtorEq, eq_self, true_and, and_true, str_list, str_size, str_app, str_cut, str_get, g5_0]
  refine hM _ _ ?_
  clear hM M
  refine pops_to rfl fun M hM => ?_
  simp only [pop, St.eval, constSlot, upd_at, Nat.reduceEqDiff, if_true, if_false, eq_self, true_and, and_true, str_list, str_size, str_app, str_cut, str_get, g5_0]
  refine hM _ _ ?_
  clear hM M
  refine pops_off (b := false) rfl rfl (by simp only [upd_at, Nat.reduceEqDiff, if_true, if_false, g5_0]) (by decide) ?_
  refine pops_off (b := false) rfl rfl (by simp only [upd_at, Nat.reduceEqDiff, if_true, if_false, g5_0]) (by decide) ?_
  refine pops_off (b := false) rfl rfl (by simp only [upd_at, Nat.reduceEqDiff, if_true, if_false, g5_0]) (by decide) ?_
  refine pops_to rfl fun M hM => ?_
  simp only [pop, St.eval, constSlot, upd_at, Nat.reduceEqDiff, if_true, if_false, popIf, true_implies, false_implies, Bool.true_eq_false, Bool.false_eq_true, reduceCtorEq, eq_self, true_and, and_true, str_list, str_size, str_app, str_cut, str_get, g5_0]
  refine hM _ _ ?_
  clear hM M
  refine pops_to rfl fun M hM => ?_
  simp only [pop, St.eval, constSlot, upd_at, Nat.reduceEqDiff, if_true, if_false, eq_self, true_and, and_true, str_list, str_size, str_app, str_cut, str_get, g5_0]
  refine hM _ _ ?_
  clear hM M
  refine pops_off (b := false) rfl rfl (by simp only [upd_at, Nat.reduceEqDiff, if_true, if_false, g5_0]) (by decide) ?_
  refine pops_off (b := false) rfl rfl (by simp only [upd_at, Nat.reduceEqDiff, if_true, if_false, g5_0]) (by decide) ?_
  refine pops_to rfl fun M hM => ?_
  simp only [pop, St.eval, constSlot, upd_at, Nat.reduceEqDiff, if_true, if_false, popIf, true_implies, false_implies, Bool.true_eq_false, Bool.false_eq_true, reduceCtorEq, eq_self, true_and, and_true, str_list, str_size, str_app, str_cut, str_get, g5_0]
  refine hM _ _ ?_
  clear hM M
  refine pops_to rfl fun M hM => ?_
  simp only [pop, St.eval, constSlot, upd_at, Nat.reduceEqDiff, if_true, if_false, eq_self, true_and, and_true, str_list, str_size, str_app, str_cut, str_get, g5_0]
  refine hM _ _ ?_
  clear hM M
  refine pops_off (b := false) rfl rfl (by simp only [upd_at, Nat.reduceEqDiff, if_true, if_false, g5_0]) (by decide) ?_
  refine pops_off (b := false) rfl rfl (by simp only [upd_at, Nat.reduceEqDiff, if_true, if_false, g5_0]) (by decide) ?_
  refine pops_to rfl fun M hM => ?_
  simp only [pop, St.eval, constSlot, upd_at, Nat.reduceEqDiff, if_true, if_false, popIf, true_implies, false_implies, Bool.true_eq_false, Bool.false_eq_true, reduceCtorEq, eq_self, true_and, and_true, str_list, str_size, str_app, str_cut, str_get, g5_0]
  refine hM _ _ ?_
  clear hM M
  refine pops_to rfl fun M hM => ?_
  simp only [pop, St.eval, constSlot, upd_at, Nat.reduceEqDiff, if_true, if_false, eq_self, true_and, and_true, str_list, str_size, str_app, str_cut, str_get, g5_0]
  refine hM _ _ ?_
  clear hM M
  refine pops_done (hR4 _ ?_)
  clear hR4 R4
  try simp only [thenK, scopeK]
  refine hN3 _ ?_
  clear hN3 N3
  refine pwp_ret ?_
  simp only [thenK, blockK, scopeK, bodyK]
  refine ⟨_, rfl, endFun (Same.refl _) ?_⟩
  try simp only [upd_at, Nat.reduceEqDiff, if_true, if_false, g5_0]
  all_goals
   refine congrArg (fun b => Slot.sv (.one (pbool b))) ?_
   simp only [isNameB]
   generalize s.any [0, 47].contains = bb at *
   rw [Bool.eq_iff_iff]
   simp_all
   all_goals (intros; omega)

theorem nm24 : (Tryd.f24.name == "runtime.NumGoroutine") = false := by kernel_rfl
theorem isPathC_fun (W0 : World) (s : List UInt8) :
  PFun Tryd.prog W0 24 [.one (pstr s)] (.sv (.one (pbool (!isNameB s)))) := by
 intro h
 refine pcalls1 (n := 6) Tryd.func24 rfl nm24 rfl fun hb => ?_
 refine pwp_then fun N1 hN1 => ?_
 refine pwp_reg fun R2 hR2 => ?_
 refine pops_to rfl fun M hM => ?_
 simp only [pop, St.eval, constSlot, upd_at, Nat.reduceEqDiff, if_true, if_false, eq_self, true_and, and_true, str_list, str_size, str_app, str_cut, str_get]
 refine hM _ _ ?_
 clear hM M
 refine pops_done (hR2 _ ?_)
 clear hR2 R2
 try simp only [thenK, scopeK]
 refine hN1 _ ?_
 clear hN1 N1
 refine pwp_then fun N3 hN3 => ?_
 refine pwp_reg fun R4 hR4 => ?_
 refine pops_to rfl fun M hM => ?_
 simp only [pop, St.eval, constSlot, upd_at, Nat.reduceEqDiff, if_true, if_false, eq_self, true_and, and_true, str_list, str_size, str_app, str_cut, str_get]
 refine hM _ _ ?_
 clear hM M
 refine pops_to rfl fun M hM => ?_
 simp only [pop, St.eval, constSlot, upd_at, Nat.reduceEqDiff, if_true, if_false, popCall, List.toList_toArray, List.map_cons, List.map_nil, svs, List.mapM_cons, List.mapM_nil, Option.bind_eq_bind, Option.bind_some, Option.pure_def, List.append_nil, List.cons_append, List.nil_append, eq_self, true_and, and_true, str_list, str_size, str_app, str_cut, str_get]
 refine PFun.use (isNameRef_fun W0 s) fun h1 s1 => hM _ _ ?_
 replace s1 := Same.trans (Same.refl _) s1
 clear hM M
 refine pops_to rfl fun M hM => ?_
 simp only [pop, St.eval, constSlot, upd_at, Nat.reduceEqDiff, if_true, if_false, unK, eq_self, true_and, and_true, str_list, str_size, str_app, str_cut, str_get]
 refine hM _ _ ?_
 clear hM M
 refine pops_to rfl fun M hM => ?_
 simp only [pop, St.eval, constSlot, upd_at, Nat.reduceEqDiff, if_true, if_false, eq_self, true_and, and_true, str_list, str_size, str_app, str_cut, str_get]
 refine hM _ _ ?_
 clear hM M
 refine pops_done (hR4 _ ?_)
 clear hR4 R4
 try simp only [thenK, scopeK]
 refine hN3 _ ?_
 clear hN3 N3
 refine pwp_ret ?_
 simp only [thenK, blockK, scopeK, bodyK]
 refine ⟨_, rfl, endFun s1 ?_⟩
 try simp only [upd_at, Nat.reduceEqDiff, if_true, if_false]
 all_goals
  rfl

theorem nm26 : (Tryd.f26.name == "runtime.NumGoroutine") = false := by kernel_rfl
theorem indexFunc_rel (W0 : World) (f : FuncId) (p : List UInt8 → Bool) (full : Bool) (xs : List (List UInt8)) (hp : ∀ x ∈ xs, PFun Tryd.prog W0 f [.one (pstr x)] (.sv (.one (pbool (p x))))) (hn : xs.length ≤ 9223372036854775807) (h : Hp) :
  PCalls Tryd.prog W0 26 [.one (.ro full 1 (pstrs xs)), .one (.clo (.func f) [])] h (fun r h' => ∃ z, r = .sv (.one (pint z)) ∧ (0 ≤ z ↔ ∃ x ∈ xs, p x = true) ∧ Same h h') := by
 refine pcalls2 (n := 19) Tryd.func26 rfl nm26 rfl fun hb => ?_
 refine pwp_then fun N1 hN1 => ?_
 refine pwp_reg fun R2 hR2 => ?_
 refine pops_to rfl fun M hM => ?_
 simp only [pop, St.eval, constSlot, upd_at, Nat.reduceEqDiff, if_true, if_false, eq_self, true_and, and_true, str_list, str_size, str_app, str_cut, str_get]
 refine hM _ _ ?_
 clear hM M
 refine pops_done (hR2 _ ?_)
 clear hR2 R2
 try simp only [thenK, scopeK]
 refine hN1 _ ?_
 clear hN1 N1
 refine pwp_then fun N3 hN3 => ?_
 refine pwp_then fun N4 hN4 => ?_
 refine pwp_reg fun R5 hR5 => ?_
 refine pops_to rfl fun M hM => ?_
 simp only [pop, St.eval, constSlot, upd_at, Nat.reduceEqDiff, if_true, if_false, eq_self, true_and, and_true, str_list, str_size, str_app, str_cut, str_get]
 refine hM _ _ ?_
 clear hM M
 refine pops_to rfl fun M hM => ?_
 simp only [pop, St.eval, constSlot, upd_at, Nat.reduceEqDiff, if_true, if_false, popCall, List.toList_toArray, List.map_cons, List.map_nil, popBuiltin, popLen, lenOfSlot, List.length_map, Tryd.underlying24, eq_self, true_and, and_true, str_list, str_size, str_app, str_cut, str_get]
 refine hM _ _ ?_
 clear hM M
 refine pops_to rfl fun M hM => ?_
 simp only [pop, St.eval, constSlot, upd_at, Nat.reduceEqDiff, if_true, if_false, eq_self, true_and, and_true, str_list, str_size, str_app, str_cut, str_get]
 refine hM _ _ ?_
 clear hM M
 refine pops_done (hR5 _ ?_)
 clear hR5 R5
 try simp only [thenK, scopeK]
 refine hN4 _ ?_
 clear hN4 N4
 refine pwp_block ?_
 refine pwp_loop (fun k σ => ∃ (i : Nat), (k = (xs).length - i) ∧ (i ≤ (xs).length) ∧ (∀ y ∈ xs.take i, p y = false) ∧ (Same h σ.hp) ∧ (σ.env 6 = .sv (.one (.ro full 1 (pstrs xs)))) ∧ (σ.env 7 = .sv (.one (pint ((xs).length : Nat)))) ∧ (σ.env 8 = .sv (.one (pint (i : Nat)))) ∧ (σ.env 0 = .sv (.one (.ro full 1 (pstrs xs)))) ∧ (σ.env 1 = .sv (.one (.clo (.func f) [])))) _ ⟨_, .refl _ _, 0, rfl, ?_⟩ ?_
 · exact ⟨Nat.zero_le _, by simp, (Same.refl _), by simp only [upd_at, Nat.reduceEqDiff, if_true, if_false], by simp only [upd_at, Nat.reduceEqDiff, if_true, if_false], by simp only [upd_at, Nat.reduceEqDiff, if_true, if_false]; rfl, by simp only [upd_at, Nat.reduceEqDiff, if_true, if_false], by simp only [upd_at, Nat.reduceEqDiff, if_true, if_false]⟩
 ·rintro k ⟨e, hp0⟩ ⟨i, hk0, hx0_0, hx0_1, sl0, e0_6, e0_7, e0_8, e0_0, e0_1⟩
  simp only at sl0 e0_6 e0_7 e0_8 e0_0 e0_1
  refine pwp_then fun N6 hN6 => ?_
  refine pwp_reg fun R7 hR7 => ?_
  refine pops_to rfl fun M hM => ?_
  simp only [pop, St.eval, constSlot, upd_at, Nat.reduceEqDiff, if_true, if_false, popBin, binK, intK, strK, eqK, eq_self, true_and, and_true, str_list, str_size, str_app, str_cut, str_get, e0_6, e0_7, e0_8, e0_0, e0_1]
  refine hM _ _ ?_
  clear hM M
  refine pops_done (hR7 _ ?_)
  clear hR7 R7
  try simp only [thenK, scopeK]
  refine hN6 _ ?_
  clear hN6 N6
  refine pwp_then fun N8 hN8 => ?_
  refine pwp_cond (by simp only [St.eval, upd_at, Nat.reduceEqDiff, if_true, if_false, e0_6, e0_7, e0_8, e0_0, e0_1] <;> rfl) (fun c9 => ?_) (fun c9 => ?_)
  ·skip
   have hi : i < (xs).length := by have := of_decide_eq_true c9; omega
   obtain ⟨x, hx⟩ : ∃ x, (xs)[i]? = some x := ⟨_, List.getElem?_eq_getElem hi⟩
   have hget : (pstrs (xs))[i]? = some [pstr x] := by simp only [List.getElem?_map, hx, Option.map_some]
   refine pwp_skip ?_
   try simp only [thenK, scopeK]
   refine hN8 _ ?_
   clear hN8 N8
   refine pwp_then fun N9 hN9 => ?_
   refine pwp_block ?_
   refine pwp_then fun N10 hN10 => ?_
   refine pwp_reg fun R11 hR11 => ?_
   refine pops_to rfl fun M hM => ?_
   simp only [pop, St.eval, constSlot, upd_at, Nat.reduceEqDiff, if_true, if_false, eq_self, true_and, and_true, str_list, str_size, str_app, str_cut, str_get, e0_6, e0_7, e0_8, e0_0, e0_1, hget, Int.toNat_natCast]
   refine hM _ _ ?_
   clear hM M
   refine pops_to rfl fun M hM => ?_
   simp only [pop, St.eval, constSlot, upd_at, Nat.reduceEqDiff, if_true, if_false, eq_self, true_and, and_true, str_list, str_size, str_app, str_cut, str_get, e0_6, e0_7, e0_8, e0_0, e0_1, hget, Int.toNat_natCast]
   refine hM _ _ ?_
   clear hM M
   refine pops_done (hR11 _ ?_)
   clear hR11 R11
   try simp only [thenK, scopeK]
   refine hN10 _ ?_
   clear hN10 N10
   refine pwp_then fun N12 hN12 => ?_
   refine pwp_reg fun R13 hR13 => ?_
   refine pops_to rfl fun M hM => ?_
   simp only [pop, St.eval, constSlot, upd_at, Nat.reduceEqDiff, if_true, if_false, eq_self, true_and, and_true, str_list, str_size, str_app, str_cut, str_get, e0_6, e0_7, e0_8, e0_0, e0_1, hget, Int.toNat_natCast]
   refine hM _ _ ?_
   clear hM M
   refine pops_to rfl fun M hM => ?_
   simp only [pop, St.eval, constSlot, upd_at, Nat.reduceEqDiff, if_true, if_false, eq_self, true_and, and_true, str_list, str_size, str_app, str_cut, str_get, e0_6, e0_7, e0_8, e0_0, e0_1, hget, Int.toNat_natCast]
   refine hM _ _ ?_
   clear hM M
   refine pops_to rfl fun M hM => ?_
   simp only [pop, St.eval, constSlot, upd_at, Nat.reduceEqDiff, if_true, if_false, eq_self, true_and, and_true, str_list, str_size, str_app, str_cut, str_get, e0_6, e0_7, e0_8, e0_0, e0_1, hget, Int.toNat_natCast]
   refine hM _ _ ?_
   clear hM M
   refine pops_to rfl fun M hM => ?_
   simp only [pop, St.eval, constSlot, upd_at, Nat.reduceEqDiff, if_true, if_false, popIndexAddr, Tryd.underlying24, sz9, eq_self, true_and, and_true, str_list, str_size, str_app, str_cut, str_get, e0_6, e0_7, e0_8, e0_0, e0_1, hget, Int.toNat_natCast]
   refine ⟨Int.natCast_nonneg _, hM _ _ ?_⟩
   clear hM M
   refine pops_to rfl fun M hM => ?_
   simp only [pop, St.eval, constSlot, upd_at, Nat.reduceEqDiff, if_true, if_false, popLoad, loadK, isAggD, List.drop_zero, List.getElem?_toArray, List.getElem?_cons_zero, List.getElem?_cons_succ, Bool.false_eq_true, Tryd.underlying9, sz9, eq_self, true_and, and_true, str_list, str_size, str_app, str_cut, str_get, e0_6, e0_7, e0_8, e0_0, e0_1, hget, Int.toNat_natCast]
   refine hM _ _ ?_
   clear hM M
   refine pops_to rfl fun M hM => ?_
   simp only [pop, St.eval, constSlot, upd_at, Nat.reduceEqDiff, if_true, if_false, popCall, List.toList_toArray, List.map_cons, List.map_nil, svs, List.mapM_cons, List.mapM_nil, Option.bind_eq_bind, Option.bind_some, Option.pure_def, List.append_nil, List.cons_append, List.nil_append, eq_self, true_and, and_true, str_list, str_size, str_app, str_cut, str_get, e0_6, e0_7, e0_8, e0_0, e0_1, hget, Int.toNat_natCast]
   refine PFun.use (hp x (List.mem_of_getElem? hx)) fun h1 s1 => hM _ _ ?_
   replace s1 := Same.trans sl0 s1
   clear hM M
   refine pops_done (hR13 _ ?_)
   clear hR13 R13
   try simp only [thenK, scopeK]
   refine hN12 _ ?_
   clear hN12 N12
   refine pwp_cond (by simp only [St.eval, upd_at, Nat.reduceEqDiff, if_true, if_false, e0_6, e0_7, e0_8, e0_0, e0_1, hget, Int.toNat_natCast] <;> rfl) (fun c16 => ?_) (fun c16 => ?_)
   ·skip
    refine pwp_then fun N14 hN14 => ?_
    refine pwp_reg fun R15 hR15 => ?_
    refine pops_to rfl fun M hM => ?_
    simp only [pop, St.eval, constSlot, upd_at, Nat.reduceEqDiff, if_true, if_false, eq_self, true_and, and_true, str_list, str_size, str_app, str_cut, str_get, e0_6, e0_7, e0_8, e0_0, e0_1, hget, Int.toNat_natCast]
    refine hM _ _ ?_
    clear hM M
    refine pops_to rfl fun M hM => ?_
    simp only [pop, St.eval, constSlot, upd_at, Nat.reduceEqDiff, if_true, if_false, eq_self, true_and, and_true, str_list, str_size, str_app, str_cut, str_get, e0_6, e0_7, e0_8, e0_0, e0_1, hget, Int.toNat_natCast]
    refine hM _ _ ?_
    clear hM M
    refine pops_done (hR15 _ ?_)
    clear hR15 R15
    try simp only [thenK, scopeK]
    refine hN14 _ ?_
    clear hN14 N14
    refine pwp_ret ?_
    simp only [thenK, blockK, scopeK, bodyK]
    clear hN9 N9 hN3 N3
    refine ⟨_, rfl, ?_⟩
    try simp only [upd_at, Nat.reduceEqDiff, if_true, if_false, e0_6, e0_7, e0_8, e0_0, e0_1, hget, Int.toNat_natCast]
    exact ⟨_, _, .refl _ _ _, _, rfl, ⟨fun _ => ⟨x, List.mem_of_getElem? hx, c16⟩, fun _ => Int.natCast_nonneg _⟩, s1⟩
   ·skip
    refine pwp_skip ?_
    try simp only [blockK, thenK, scopeK]
    try simp only [thenK, scopeK]
    refine hN9 _ ?_
    clear hN9 N9
    refine pwp_reg fun R16 hR16 => ?_
    refine pops_to rfl fun M hM => ?_
    simp only [pop, St.eval, constSlot, upd_at, Nat.reduceEqDiff, if_true, if_false, popBin, binK, intK, strK, eqK, eq_self, true_and, and_true, str_list, str_size, str_app, str_cut, str_get, e0_6, e0_7, e0_8, e0_0, e0_1, hget, Int.toNat_natCast]
    refine hM _ _ ?_
    clear hM M
    refine pops_to rfl fun M hM => ?_
    simp only [pop, St.eval, constSlot, upd_at, Nat.reduceEqDiff, if_true, if_false, eq_self, true_and, and_true, str_list, str_size, str_app, str_cut, str_get, e0_6, e0_7, e0_8, e0_0, e0_1, hget, Int.toNat_natCast]
    refine hM _ _ ?_
    clear hM M
    refine pops_done (hR16 _ ?_)
    clear hR16 R16
    try simp only [thenK, scopeK]
    exact ⟨_, by omega, _, .refl _ _, i + 1, rfl, by omega, by rw [List.take_add_one, hx]; simp only [Option.toList_some, List.mem_append, List.mem_singleton]; rintro y (hy | rfl); exact hx0_1 y hy; exact c16, s1, by simp only [upd_at, Nat.reduceEqDiff, if_true, if_false, e0_6, e0_7, e0_8, e0_0, e0_1, hget, Int.toNat_natCast], by simp only [upd_at, Nat.reduceEqDiff, if_true, if_false, e0_6, e0_7, e0_8, e0_0, e0_1, hget, Int.toNat_natCast], by simp only [upd_at, Nat.reduceEqDiff, if_true, if_false, e0_8]; rw [wrap_succ (by omega)], by simp only [upd_at, Nat.reduceEqDiff, if_true, if_false, e0_6, e0_7, e0_8, e0_0, e0_1, hget, Int.toNat_natCast], by simp only [upd_at, Nat.reduceEqDiff, if_true, if_false, e0_6, e0_7, e0_8, e0_0, e0_1, hget, Int.toNat_natCast]⟩
  ·skip
   have hi := of_decide_eq_false c9
   refine pwp_exit ?_
   try simp only [thenK, blockK, scopeK, if_true, Nat.reduceEqDiff, if_false]
   clear hN8 N8
   try simp only [blockK, scopeK, if_true, Nat.reduceEqDiff, if_false, thenK]
   try simp only [thenK, scopeK]
   refine hN3 _ ?_
   clear hN3 N3
   refine pwp_then fun N17 hN17 => ?_
   refine pwp_reg fun R18 hR18 => ?_
   refine pops_to rfl fun M hM => ?_
   simp only [pop, St.eval, constSlot, upd_at, Nat.reduceEqDiff, if_true, if_false, eq_self, true_and, and_true, str_list, str_size, str_app, str_cut, str_get, e0_6, e0_7, e0_8, e0_0, e0_1]
   refine hM _ _ ?_
   clear hM M
   refine pops_done (hR18 _ ?_)
   clear hR18 R18
   try simp only [thenK, scopeK]
   refine hN17 _ ?_
   clear hN17 N17
   refine pwp_ret ?_
   simp only [thenK, blockK, scopeK, bodyK]
   refine ⟨_, rfl, ?_⟩
   try simp only [upd_at, Nat.reduceEqDiff, if_true, if_false, e0_6, e0_7, e0_8, e0_0, e0_1]
   exact ⟨_, _, .refl _ _ _, _, rfl, ⟨fun x => by omega, fun ⟨x, h1, h2⟩ => by
     rw [List.take_of_length_le (by omega)] at hx0_1
     rw [hx0_1 x h1] at h2
     cases h2⟩, sl0⟩

theorem nm11 : (Tryd.f11.name == "runtime.NumGoroutine") = false := by kernel_rfl
theorem containsFunc_fun (W0 : World) (f : FuncId) (p : List UInt8 → Bool) (full : Bool) (xs : List (List UInt8)) (hp : ∀ x ∈ xs, PFun Tryd.prog W0 f [.one (pstr x)] (.sv (.one (pbool (p x))))) (hn : xs.length ≤ 9223372036854775807) :
  PFun Tryd.prog W0 11 [.one (.ro full 1 (pstrs xs)), .one (.clo (.func f) [])] (.sv (.one (pbool (xs.any p)))) := by
 intro h
 refine pcalls2 (n := 9) Tryd.func11 rfl nm11 rfl fun hb => ?_
 refine pwp_then fun N1 hN1 => ?_
 refine pwp_reg fun R2 hR2 => ?_
 refine pops_to rfl fun M hM => ?_
 simp only [pop, St.eval, constSlot, upd_at, Nat.reduceEqDiff, if_true, if_false, eq_self, true_and, and_true, str_list, str_size, str_app, str_cut, str_get]
 refine hM _ _ ?_
 clear hM M
 refine pops_done (hR2 _ ?_)
 clear hR2 R2
 try simp only [thenK, scopeK]
 refine hN1 _ ?_
 clear hN1 N1
 refine pwp_then fun N3 hN3 => ?_
 refine pwp_reg fun R4 hR4 => ?_
 refine pops_to rfl fun M hM => ?_
 simp only [pop, St.eval, constSlot, upd_at, Nat.reduceEqDiff, if_true, if_false, eq_self, true_and, and_true, str_list, str_size, str_app, str_cut, str_get]
 refine hM _ _ ?_
 clear hM M
 refine pops_to rfl fun M hM => ?_
 simp only [pop, St.eval, constSlot, upd_at, Nat.reduceEqDiff, if_true, if_false, eq_self, true_and, and_true, str_list, str_size, str_app, str_cut, str_get]
 refine hM _ _ ?_
 clear hM M
 refine pops_to rfl fun M hM => ?_
 simp only [pop, St.eval, constSlot, upd_at, Nat.reduceEqDiff, if_true, if_false, popCall, List.toList_toArray, List.map_cons, List.map_nil, svs, List.mapM_cons, List.mapM_nil, Option.bind_eq_bind, Option.bind_some, Option.pure_def, List.append_nil, List.cons_append, List.nil_append, eq_self, true_and, and_true, str_list, str_size, str_app, str_cut, str_get]
 refine (indexFunc_rel W0 f p full xs hp hn _).mono ?_
 rintro _ h1 ⟨z, rfl, hz, s1⟩
 refine hM _ _ ?_
 clear hM M
 refine pops_to rfl fun M hM => ?_
 simp only [pop, St.eval, constSlot, upd_at, Nat.reduceEqDiff, if_true, if_false, popBin, binK, intK, strK, eqK, eq_self, true_and, and_true, str_list, str_size, str_app, str_cut, str_get]
 refine hM _ _ ?_
 clear hM M
 refine pops_to rfl fun M hM => ?_
 simp only [pop, St.eval, constSlot, upd_at, Nat.reduceEqDiff, if_true, if_false, eq_self, true_and, and_true, str_list, str_size, str_app, str_cut, str_get]
 refine hM _ _ ?_
 clear hM M
 refine pops_done (hR4 _ ?_)
 clear hR4 R4
 try simp only [thenK, scopeK]
 refine hN3 _ ?_
 clear hN3 N3
 refine pwp_ret ?_
 simp only [thenK, blockK, scopeK, bodyK]
 refine ⟨_, rfl, endFun s1 ?_⟩
 try simp only [upd_at, Nat.reduceEqDiff, if_true, if_false]
 all_goals
  have e : decide (z ≥ 0) = xs.any p := by
    rw [Bool.eq_iff_iff]
    simp only [decide_eq_true_eq, ge_iff_le, List.any_eq_true]
    exact hz
  rw [e]

theorem nm10 : (Tryd.f10.name == "runtime.NumGoroutine") = false := by kernel_rfl
theorem isPath_fun (W0 : World) (hm : HasMax W0) (s : List UInt8) :
  PFun Tryd.prog W0 10 [.one (pstr s)] (.sv (.one (pbool (isPathB s)))) := by
 intro h
 refine pcalls1 (n := 14) Tryd.func10 rfl nm10 rfl fun hb => ?_
 refine pwp_then fun N1 hN1 => ?_
 refine pwp_reg fun R2 hR2 => ?_
 refine pops_to rfl fun M hM => ?_
 simp only [pop, St.eval, constSlot, upd_at, Nat.reduceEqDiff, if_true, if_false, eq_self, true_and, and_true, str_list, str_size, str_app, str_cut, str_get]
 refine hM _ _ ?_
 clear hM M
 refine pops_done (hR2 _ ?_)
 clear hR2 R2
 try simp only [thenK, scopeK]
 refine hN1 _ ?_
 clear hN1 N1
 refine pwp_then fun N3 hN3 => ?_
 refine pwp_then fun N4 hN4 => ?_
 refine pwp_reg fun R5 hR5 => ?_
 refine pops_to rfl fun M hM => ?_
 simp only [pop, St.eval, constSlot, upd_at, Nat.reduceEqDiff, if_true, if_false, eq_self, true_and, and_true, str_list, str_size, str_app, str_cut, str_get]
 refine hM _ _ ?_
 clear hM M
 refine pops_to rfl fun M hM => ?_
 simp only [pop, St.eval, constSlot, upd_at, Nat.reduceEqDiff, if_true, if_false, popBin, binK, intK, strK, eqK, Tryd.underlying9, isPtr, eq_self, true_and, and_true, str_list, str_size, str_app, str_cut, str_get]
 refine hM _ _ ?_
 clear hM M
 refine pops_done (hR5 _ ?_)
 clear hR5 R5
 try simp only [thenK, scopeK]
 refine hN4 _ ?_
 clear hN4 N4
 refine pwp_cond (by simp only [St.eval, upd_at, Nat.reduceEqDiff, if_true, if_false] <;> rfl) (fun c4 => ?_) (fun c4 => ?_)
 ·skip
  have hs : s = [] := by simpa using c4
  refine pwp_then fun N6 hN6 => ?_
  refine pwp_reg fun R7 hR7 => ?_
  refine pops_to rfl fun M hM => ?_
  simp only [pop, St.eval, constSlot, upd_at, Nat.reduceEqDiff, if_true, if_false, eq_self, true_and, and_true, str_list, str_size, str_app, str_cut, str_get]
  refine hM _ _ ?_
  clear hM M
  refine pops_done (hR7 _ ?_)
  clear hR7 R7
  try simp only [thenK, scopeK]
  refine hN6 _ ?_
  clear hN6 N6
  refine pwp_ret ?_
  simp only [thenK, blockK, scopeK, bodyK]
  clear hN3 N3
  refine ⟨_, rfl, endFun (Same.refl _) ?_⟩
  try simp only [upd_at, Nat.reduceEqDiff, if_true, if_false]
  all_goals
   simp [isPathB, hs]
 ·skip
  have hs : ¬ s = [] := by simpa using c4
  refine pwp_skip ?_
  try simp only [thenK, scopeK]
  refine hN3 _ ?_
  clear hN3 N3
  refine pwp_then fun N8 hN8 => ?_
  refine pwp_reg fun R9 hR9 => ?_
  refine pops_to rfl fun M hM => ?_
  simp only [pop, St.eval, constSlot, upd_at, Nat.reduceEqDiff, if_true, if_false, eq_self, true_and, and_true, str_list, str_size, str_app, str_cut, str_get]
  refine hM _ _ ?_
  clear hM M
  refine pops_to rfl fun M hM => ?_
  simp only [pop, St.eval, constSlot, upd_at, Nat.reduceEqDiff, if_true, if_false, popCall, List.toList_toArray, List.map_cons, List.map_nil, popBuiltin, popLen, lenOfSlot, List.length_map, Tryd.underlying9, eq_self, true_and, and_true, str_list, str_size, str_app, str_cut, str_get]
  refine hM _ _ ?_
  clear hM M
  refine pops_to rfl fun M hM => ?_
  simp only [pop, St.eval, constSlot, upd_at, Nat.reduceEqDiff, if_true, if_false, popBin, binK, intK, strK, eqK, eq_self, true_and, and_true, str_list, str_size, str_app, str_cut, str_get]
  refine hM _ _ ?_
  clear hM M
  refine pops_to rfl fun M hM => ?_
  simp only [pop, St.eval, constSlot, upd_at, Nat.reduceEqDiff, if_true, if_false, eq_self, true_and, and_true, str_list, str_size, str_app, str_cut, str_get]
  refine hM _ _ ?_
  clear hM M
  refine pops_split 8 (by simp only [upd_at, Nat.reduceEqDiff, if_true, if_false] <;> rfl) (fun g8_0 => ?_) (fun g8_0 => ?_)
  ·skip
   have hlen : s.length ≤ 1024 := by have := of_decide_eq_true g8_0; omega
   refine pops_do rfl rfl (by simp only [upd_at, Nat.reduceEqDiff, if_true, if_false, g8_0]) fun M hM => ?_
   simp only [pop, St.eval, constSlot, upd_at, Nat.reduceEqDiff, if_true, if_false, eq_self, true_and, and_true, str_list, str_size, str_app, str_cut, str_get, g8_0]
   refine hM _ _ ?_
   clear hM M
   refine pops_do rfl rfl (by simp only [upd_at, Nat.reduceEqDiff, if_true, if_false, g8_0]) fun M hM => ?_
   simp only [pop, St.eval, constSlot, upd_at, Nat.reduceEqDiff, if_true, if_false, popCall, List.toList_toArray, List.map_cons, List.map_nil, svs, List.mapM_cons, List.mapM_nil, Option.bind_eq_bind, Option.bind_some, Option.pure_def, List.append_nil, List.cons_append, List.nil_append, eq_self, true_and, and_true, str_list, str_size, str_app, str_cut, str_get, g8_0]
   refine PFun.use (split_fun W0 hm s 47 (by omega)) fun h1 s1 => hM _ _ ?_
   replace s1 := Same.trans (Same.refl _) s1
   clear hM M
   refine pops_do rfl rfl (by simp only [upd_at, Nat.reduceEqDiff, if_true, if_false, g8_0]) fun M hM => ?_
   simp only [pop, St.eval, constSlot, upd_at, Nat.reduceEqDiff, if_true, if_false, popCall, List.toList_toArray, List.map_cons, List.map_nil, svs, List.mapM_cons, List.mapM_nil, Option.bind_eq_bind, Option.bind_some, Option.pure_def, List.append_nil, List.cons_append, List.nil_append, eq_self, true_and, and_true, str_list, str_size, str_app, str_cut, str_get, g8_0]
   refine PFun.use (containsFunc_fun W0 24 (fun x => !isNameB x) true (spl 47 s) (fun x _ => isPathC_fun W0 x) (by rw [spl_length]; have := List.count_le_length (a := (47 : UInt8)) (l := s); omega)) fun h2 s2 => hM _ _ ?_
   replace s2 := Same.trans s1 s2
   clear hM M
   refine pops_do rfl rfl (by simp only [upd_at, Nat.reduceEqDiff, if_true, if_false, g8_0]) fun M hM => ?_
   simp only [pop, St.eval, constSlot, upd_at, Nat.reduceEqDiff, if_true, if_false, unK, eq_self, true_and, and_true, str_list, str_size, str_app, str_cut, str_get, g8_0]
   refine hM _ _ ?_
   clear hM M
   refine pops_to rfl fun M hM => ?_
   simp only [pop, St.eval, constSlot, upd_at, Nat.reduceEqDiff, if_true, if_false, popIf, true_implies, false_implies, Bool.true_eq_false, Bool.false_eq_true, reduceCtorEq, eq_self, true_and, and_true, str_list, str_size, str_app, str_cut, str_get, g8_0]
   refine hM _ _ ?_
   clear hM M
   refine pops_to rfl fun M hM => ?_
   simp only [pop, St.eval, constSlot, upd_at, Nat.reduceEqDiff, if_true, if_false, eq_self, true_and, and_true, str_list, str_size, str_app, str_cut, str_get, g8_0]
   refine hM _ _ ?_
   clear hM M
   refine pops_done (hR9 _ ?_)
   clear hR9 R9
   try simp only [thenK, scopeK]
   refine hN8 _ ?_
   clear hN8 N8
   refine pwp_ret ?_
   simp only [thenK, blockK, scopeK, bodyK]
   refine ⟨_, rfl, endFun s2 ?_⟩
   try simp only [upd_at, Nat.reduceEqDiff, if_true, if_false, g8_0]
   all_goals
    refine congrArg (fun b => Slot.sv (.one (pbool b))) ?_
    simp only [isPathB]
    rw [Bool.eq_iff_iff]
    simp_all
    all_goals (intros; omega)
  ·skip
   have hlen : ¬ s.length ≤ 1024 := by have := of_decide_eq_false g8_0; omega
   refine pops_off (b := false) rfl rfl (by simp only [upd_at, Nat.reduceEqDiff, if_true, if_false, g8_0]) (by decide) ?_
   refine pops_off (b := false) rfl rfl (by simp only [upd_at, Nat.reduceEqDiff, if_true, if_false, g8_0]) (by decide) ?_
   refine pops_off (b := false) rfl rfl (by simp only [upd_at, Nat.reduceEqDiff, if_true, if_false, g8_0]) (by decide) ?_
   refine pops_off (b := false) rfl rfl (by simp only [upd_at, Nat.reduceEqDiff, if_true, if_false, g8_0]) (by decide) ?_
   refine pops_to rfl fun M hM => ?_
   simp only [pop, St.eval, constSlot, upd_at, Nat.reduceEqDiff, if_true, if_false, popIf, true_implies, false_implies, Bool.true_eq_false, Bool.false_eq_true, reduceCtorEq, eq_self, true_and, and_true, str_list, str_size, str_app, str_cut, str_get, g8_0]
   refine hM _ _ ?_
   clear hM M
   refine pops_to rfl fun M hM => ?_
   simp only [pop, St.eval, constSlot, upd_at, Nat.reduceEqDiff, if_true, if_false, eq_self, true_and, and_true, str_list, str_size, str_app, str_cut, str_get, g8_0]
   refine hM _ _ ?_
   clear hM M
   refine pops_done (hR9 _ ?_)
   clear hR9 R9
   try simp only [thenK, scopeK]
   refine hN8 _ ?_
   clear hN8 N8
   refine pwp_ret ?_
   simp only [thenK, blockK, scopeK, bodyK]
   refine ⟨_, rfl, endFun (Same.refl _) ?_⟩
   try simp only [upd_at, Nat.reduceEqDiff, if_true, if_false, g8_0]
   all_goals
    refine congrArg (fun b => Slot.sv (.one (pbool b))) ?_
    simp only [isPathB]
    rw [Bool.eq_iff_iff]
    simp_all
    all_goals (intros; omega)
end Go.Pw
