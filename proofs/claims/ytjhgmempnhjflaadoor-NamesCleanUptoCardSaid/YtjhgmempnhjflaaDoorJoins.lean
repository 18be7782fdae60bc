import Derived.Test.YtjhgmempnhjflaaDoorCheck
import Derived.Test.YtjhgmempnhjflaaDoorPwU
namespace Go.Pw
open Go Go.RowKit Go.Proofs
set_option maxRecDepth 100000
set_option linter.unusedSimpArgs false
set_option linter.unusedVariables false
theorem join_bulk (c : UInt8) : ∀ xs : List (List UInt8), (Lib.join xs [c]).length ≤ pvWss (pstrs xs) ∧ xs.length ≤ pvWss (pstrs xs)
  | [] => by simp [Lib.join, pvWss, pstrs]
  | [x] => by simp [Lib.join_one, pvWss, pstrs, pvWs, pvW, str_size]
  | x :: y :: r => by
    obtain ⟨ih1, ih2⟩ := join_bulk c (y :: r)
    have e : Lib.join (x :: y :: r) [c] = x ++ ([c] ++ Lib.join (y :: r) [c]) := by
      rw [Lib.join_cons, Lib.join_cons]
      simp [Lib.joinTail]
    rw [e]
    simp only [List.length_append, List.length_cons, List.length_nil, pvWss, pstrs, List.map_cons, pvWs, pvW, str_size] at ih1 ih2 ⊢
    omega
theorem nm8 : (Tryd.f8.name == "runtime.NumGoroutine") = false := by kernel_rfl
theorem join_law (W0 : World) (hm : HasMax W0) (full : Bool) (xs : List (List UInt8)) (hn : xs.length ≤ 140737488355328) (hj : (Lib.join xs [47]).length ≤ 140737488355328) :
    PFun Tryd.prog W0 8 [.one (.ro full 1 (pstrs xs))] (.sv (.one (pbool true))) := by
  intro h
  have hany : xs.any (fun x => !isNameB x) = !xs.all isNameB := by rw [← List.not_all_eq_any_not]
  refine pcalls1 (n := 33) Tryd.func8 rfl nm8 rfl fun hb => ?_
  refine pwp_then fun N1 hN1 => ?_
  refine pwp_reg fun R2 hR2 => ?_
  refine pops_to rfl fun M hM => ?_
  simp only [pop, St.eval, constSlot, upd_at, Nat.reduceEqDiff, if_true, if_false, eq_self, true_and, and_true, str_list, str_size, str_app, str_cut, str_get]
  refine hM _ _ ?_
  clear hM M
  refine pops_done (hR2 _ ?_)
  clear hR2 R2
  try simp only [thenK, scopeK]
  refine hN1 _ ?_
  clear hN1 N1
  refine pwp_then fun N3 hN3 => ?_
  refine pwp_then fun N4 hN4 => ?_
  refine pwp_reg fun R5 hR5 => ?_
  refine pops_to rfl fun M hM => ?_
  simp only [pop, St.eval, constSlot, upd_at, Nat.reduceEqDiff, if_true, if_false, popCall, List.toList_toArray, List.map_cons, List.map_nil, svs, List.mapM_cons, List.mapM_nil, Option.bind_eq_bind, Option.bind_some, Option.pure_def, List.append_nil, List.cons_append, List.nil_append, eq_self, true_and, and_true, str_list, str_size, str_app, str_cut, str_get]
  refine PFun.use (landed_fun W0 hm) fun h1 s1 => hM _ _ ?_
  replace s1 := Same.trans (Same.refl _) s1
  clear hM M
  refine pops_to rfl fun M hM => ?_
  simp only [pop, St.eval, constSlot, upd_at, Nat.reduceEqDiff, if_true, if_false, unK, eq_self, true_and, and_true, str_list, str_size, str_app, str_cut, str_get]
  refine hM _ _ ?_
  clear hM M
  refine pops_done (hR5 _ ?_)
  clear hR5 R5
  try simp only [thenK, scopeK]
  refine hN4 _ ?_
  clear hN4 N4
  refine pwp_cond (by simp only [St.eval, upd_at, Nat.reduceEqDiff, if_true, if_false] <;> rfl) (fun c8 => ?_) (fun c8 => ?_)
  · skip
    simp at c8
  · skip
    refine pwp_skip ?_
    try simp only [thenK, scopeK]
    refine hN3 _ ?_
    clear hN3 N3
    refine pwp_then fun N6 hN6 => ?_
    refine pwp_reg fun R7 hR7 => ?_
    refine pops_to rfl fun M hM => ?_
    simp only [pop, St.eval, constSlot, upd_at, Nat.reduceEqDiff, if_true, if_false, eq_self, true_and, and_true, str_list, str_size, str_app, str_cut, str_get]
    refine hM _ _ ?_
    clear hM M
    refine pops_done (hR7 _ ?_)
    clear hR7 R7
    try simp only [thenK, scopeK]
    refine hN6 _ ?_
    clear hN6 N6
    refine pwp_then fun N8 hN8 => ?_
    refine pwp_reg fun R9 hR9 => ?_
    refine pops_to rfl fun M hM => ?_
    simp only [pop, St.eval, constSlot, upd_at, Nat.reduceEqDiff, if_true, if_false, eq_self, true_and, and_true, str_list, str_size, str_app, str_cut, str_get]
    refine hM _ _ ?_
    clear hM M
    refine pops_to rfl fun M hM => ?_
    simp only [pop, St.eval, constSlot, upd_at, Nat.reduceEqDiff, if_true, if_false, popCall, List.toList_toArray, List.map_cons, List.map_nil, svs, List.mapM_cons, List.mapM_nil, Option.bind_eq_bind, Option.bind_some, Option.pure_def, List.append_nil, List.cons_append, List.nil_append, eq_self, true_and, and_true, str_list, str_size, str_app, str_cut, str_get]
    refine PFun.use (join_fun W0 full xs hn hj) fun h2 s2 => hM _ _ ?_
    replace s2 := Same.trans s1 s2
    clear hM M
    refine pops_to rfl fun M hM => ?_
    simp only [pop, St.eval, constSlot, upd_at, Nat.reduceEqDiff, if_true, if_false, eq_self, true_and, and_true, str_list, str_size, str_app, str_cut, str_get]
    refine hM _ _ ?_
    clear hM M
    refine pops_done (hR9 _ ?_)
    clear hR9 R9
    try simp only [thenK, scopeK]
    refine hN8 _ ?_
    clear hN8 N8
    refine pwp_then fun N10 hN10 => ?_
    refine pwp_block ?_
    refine pwp_then fun N11 hN11 => ?_
    refine pwp_reg fun R12 hR12 => ?_
    refine pops_to rfl fun M hM => ?_
    simp only [pop, St.eval, constSlot, upd_at, Nat.reduceEqDiff, if_true, if_false, eq_self, true_and, and_true, str_list, str_size, str_app, str_cut, str_get]
    refine hM _ _ ?_
    clear hM M
    refine pops_to rfl fun M hM => ?_
    simp only [pop, St.eval, constSlot, upd_at, Nat.reduceEqDiff, if_true, if_false, popCall, List.toList_toArray, List.map_cons, List.map_nil, svs, List.mapM_cons, List.mapM_nil, Option.bind_eq_bind, Option.bind_some, Option.pure_def, List.append_nil, List.cons_append, List.nil_append, eq_self, true_and, and_true, str_list, str_size, str_app, str_cut, str_get, hany]
    refine PFun.use (containsFunc_fun W0 32 (fun x => !isNameB x) full xs (fun x _ => joinC_fun W0 x) (by omega)) fun h3 s3 => hM _ _ ?_
    replace s3 := Same.trans s2 s3
    clear hM M
    refine pops_to rfl fun M hM => ?_
    simp only [pop, St.eval, constSlot, upd_at, Nat.reduceEqDiff, if_true, if_false, eq_self, true_and, and_true, str_list, str_size, str_app, str_cut, str_get]
    refine hM _ _ ?_
    clear hM M
    refine pops_done (hR12 _ ?_)
    clear hR12 R12
    try simp only [thenK, scopeK]
    refine hN11 _ ?_
    clear hN11 N11
    refine pwp_cond (by simp only [St.eval, upd_at, Nat.reduceEqDiff, if_true, if_false] <;> rfl) (fun c11 => ?_) (fun c11 => ?_)
    · skip
      have ha : xs.all isNameB = false := by
        cases h9 : xs.all isNameB with
        | false => rfl
        | true => rw [← List.not_all_eq_any_not] at c11; simp [h9] at c11
      have hjr := joinR_1 ha
      refine pwp_reg fun R13 hR13 => ?_
      refine pops_to rfl fun M hM => ?_
      simp only [pop, St.eval, constSlot, upd_at, Nat.reduceEqDiff, if_true, if_false, eq_self, true_and, and_true, str_list, str_size, str_app, str_cut, str_get]
      refine hM _ _ ?_
      clear hM M
      refine pops_done (hR13 _ ?_)
      clear hR13 R13
      try simp only [blockK, thenK, scopeK]
      try simp only [thenK, scopeK]
      refine hN10 _ ?_
      clear hN10 N10
      refine pwp_then fun N14 hN14 => ?_
      refine pwp_then fun N15 hN15 => ?_
      refine pwp_reg fun R16 hR16 => ?_
      refine pops_to rfl fun M hM => ?_
      simp only [pop, St.eval, constSlot, upd_at, Nat.reduceEqDiff, if_true, if_false, eq_self, true_and, and_true, str_list, str_size, str_app, str_cut, str_get]
      refine hM _ _ ?_
      clear hM M
      refine pops_to rfl fun M hM => ?_
      simp only [pop, St.eval, constSlot, upd_at, Nat.reduceEqDiff, if_true, if_false, popBin, binK, intK, strK, eqK, Tryd.underlying31, isPtr, eq_self, true_and, and_true, str_list, str_size, str_app, str_cut, str_get]
      refine hM _ _ ?_
      clear hM M
      refine pops_done (hR16 _ ?_)
      clear hR16 R16
      try simp only [thenK, scopeK]
      refine hN15 _ ?_
      clear hN15 N15
      refine pwp_cond (by simp only [St.eval, upd_at, Nat.reduceEqDiff, if_true, if_false] <;> rfl) (fun c19 => ?_) (fun c19 => ?_)
      · skip
        refine pwp_reg fun R17 hR17 => ?_
        refine pops_to rfl fun M hM => ?_
        simp only [pop, St.eval, constSlot, upd_at, Nat.reduceEqDiff, if_true, if_false, eq_self, true_and, and_true, str_list, str_size, str_app, str_cut, str_get]
        refine hM _ _ ?_
        clear hM M
        refine pops_done (hR17 _ ?_)
        clear hR17 R17
        try simp only [thenK, scopeK]
        refine hN14 _ ?_
        clear hN14 N14
        refine pwp_then fun N18 hN18 => ?_
        refine pwp_reg fun R19 hR19 => ?_
        refine pops_to rfl fun M hM => ?_
        simp only [pop, St.eval, constSlot, upd_at, Nat.reduceEqDiff, if_true, if_false, eq_self, true_and, and_true, str_list, str_size, str_app, str_cut, str_get]
        refine hM _ _ ?_
        clear hM M
        refine pops_to rfl fun M hM => ?_
        simp only [pop, St.eval, constSlot, upd_at, Nat.reduceEqDiff, if_true, if_false, popCall, List.toList_toArray, List.map_cons, List.map_nil, svs, List.mapM_cons, List.mapM_nil, Option.bind_eq_bind, Option.bind_some, Option.pure_def, List.append_nil, List.cons_append, List.nil_append, eq_self, true_and, and_true, str_list, str_size, str_app, str_cut, str_get]
        refine PFun.use (names_join_fun W0 full xs hn hj) fun h4 s4 => hM _ _ ?_
        replace s4 := Same.trans s3 s4
        clear hM M
        refine pops_to rfl fun M hM => ?_
        simp only [pop, St.eval, constSlot, upd_at, Nat.reduceEqDiff, if_true, if_false, eq_self, true_and, and_true, str_list, str_size, str_app, str_cut, str_get]
        refine hM _ _ ?_
        clear hM M
        refine pops_to rfl fun M hM => ?_
        simp only [pop, St.eval, constSlot, upd_at, Nat.reduceEqDiff, if_true, if_false, List.getElem?_toArray, List.getElem?_cons_zero, List.getElem?_cons_succ, eq_self, true_and, and_true, str_list, str_size, str_app, str_cut, str_get]
        refine hM _ _ ?_
        clear hM M
        refine pops_to rfl fun M hM => ?_
        simp only [pop, St.eval, constSlot, upd_at, Nat.reduceEqDiff, if_true, if_false, List.getElem?_toArray, List.getElem?_cons_zero, List.getElem?_cons_succ, eq_self, true_and, and_true, str_list, str_size, str_app, str_cut, str_get]
        refine hM _ _ ?_
        clear hM M
        refine pops_to rfl fun M hM => ?_
        simp only [pop, St.eval, constSlot, upd_at, Nat.reduceEqDiff, if_true, if_false, eq_self, true_and, and_true, str_list, str_size, str_app, str_cut, str_get]
        refine hM _ _ ?_
        clear hM M
        refine pops_to rfl fun M hM => ?_
        simp only [pop, St.eval, constSlot, upd_at, Nat.reduceEqDiff, if_true, if_false, eq_self, true_and, and_true, str_list, str_size, str_app, str_cut, str_get]
        refine hM _ _ ?_
        clear hM M
        refine pops_done (hR19 _ ?_)
        clear hR19 R19
        try simp only [thenK, scopeK]
        refine hN18 _ ?_
        clear hN18 N18
        refine pwp_then fun N20 hN20 => ?_
        refine pwp_reg fun R21 hR21 => ?_
        refine pops_to rfl fun M hM => ?_
        simp only [pop, St.eval, constSlot, upd_at, Nat.reduceEqDiff, if_true, if_false, eq_self, true_and, and_true, str_list, str_size, str_app, str_cut, str_get]
        refine hM _ _ ?_
        clear hM M
        refine pops_to rfl fun M hM => ?_
        simp only [pop, St.eval, constSlot, upd_at, Nat.reduceEqDiff, if_true, if_false, eq_self, true_and, and_true, str_list, str_size, str_app, str_cut, str_get]
        refine hM _ _ ?_
        clear hM M
        refine pops_to rfl fun M hM => ?_
        simp only [pop, St.eval, constSlot, upd_at, Nat.reduceEqDiff, if_true, if_false, popBin, binK, intK, strK, eqK, Tryd.underlying9, isPtr, eq_self, true_and, and_true, str_list, str_size, str_app, str_cut, str_get]
        refine hM _ _ ?_
        clear hM M
        refine pops_to rfl fun M hM => ?_
        simp only [pop, St.eval, constSlot, upd_at, Nat.reduceEqDiff, if_true, if_false, eq_self, true_and, and_true, str_list, str_size, str_app, str_cut, str_get]
        refine hM _ _ ?_
        clear hM M
        refine pops_split 28 (by simp only [upd_at, Nat.reduceEqDiff, if_true, if_false] <;> rfl) (fun g28_0 => ?_) (fun g28_0 => ?_)
        · skip
          refine pops_do rfl rfl (by simp only [upd_at, Nat.reduceEqDiff, if_true, if_false, g28_0]) fun M hM => ?_
          simp only [pop, St.eval, constSlot, upd_at, Nat.reduceEqDiff, if_true, if_false, eq_self, true_and, and_true, str_list, str_size, str_app, str_cut, str_get, g28_0]
          refine hM _ _ ?_
          clear hM M
          refine pops_do rfl rfl (by simp only [upd_at, Nat.reduceEqDiff, if_true, if_false, g28_0]) fun M hM => ?_
          simp only [pop, St.eval, constSlot, upd_at, Nat.reduceEqDiff, if_true, if_false, eq_self, true_and, and_true, str_list, str_size, str_app, str_cut, str_get, g28_0]
          refine hM _ _ ?_
          clear hM M
          refine pops_do rfl rfl (by simp only [upd_at, Nat.reduceEqDiff, if_true, if_false, g28_0]) fun M hM => ?_
          simp only [pop, St.eval, constSlot, upd_at, Nat.reduceEqDiff, if_true, if_false, popBin, binK, intK, strK, eqK, Tryd.underlying31, isPtr, eq_self, true_and, and_true, str_list, str_size, str_app, str_cut, str_get, g28_0]
          refine hM _ _ ?_
          clear hM M
          refine pops_to rfl fun M hM => ?_
          simp only [pop, St.eval, constSlot, upd_at, Nat.reduceEqDiff, if_true, if_false, popIf, true_implies, false_implies, Bool.true_eq_false, Bool.false_eq_true, reduceCtorEq, eq_self, true_and, and_true, str_list, str_size, str_app, str_cut, str_get, g28_0]
          refine hM _ _ ?_
          clear hM M
          refine pops_to rfl fun M hM => ?_
          simp only [pop, St.eval, constSlot, upd_at, Nat.reduceEqDiff, if_true, if_false, eq_self, true_and, and_true, str_list, str_size, str_app, str_cut, str_get, g28_0]
          refine hM _ _ ?_
          clear hM M
          refine pops_done (hR21 _ ?_)
          clear hR21 R21
          try simp only [thenK, scopeK]
          refine hN20 _ ?_
          clear hN20 N20
          refine pwp_ret ?_
          simp only [thenK, blockK, scopeK, bodyK]
          refine ⟨_, rfl, endFun s4 ?_⟩
          try simp only [upd_at, Nat.reduceEqDiff, if_true, if_false, g28_0]
          all_goals
            clear hm
            simp_all
        · skip
          refine pops_off (b := false) rfl rfl (by simp only [upd_at, Nat.reduceEqDiff, if_true, if_false, g28_0]) (by decide) ?_
          refine pops_off (b := false) rfl rfl (by simp only [upd_at, Nat.reduceEqDiff, if_true, if_false, g28_0]) (by decide) ?_
          refine pops_off (b := false) rfl rfl (by simp only [upd_at, Nat.reduceEqDiff, if_true, if_false, g28_0]) (by decide) ?_
          refine pops_to rfl fun M hM => ?_
          simp only [pop, St.eval, constSlot, upd_at, Nat.reduceEqDiff, if_true, if_false, popIf, true_implies, false_implies, Bool.true_eq_false, Bool.false_eq_true, reduceCtorEq, eq_self, true_and, and_true, str_list, str_size, str_app, str_cut, str_get, g28_0]
          refine hM _ _ ?_
          clear hM M
          refine pops_to rfl fun M hM => ?_
          simp only [pop, St.eval, constSlot, upd_at, Nat.reduceEqDiff, if_true, if_false, eq_self, true_and, and_true, str_list, str_size, str_app, str_cut, str_get, g28_0]
          refine hM _ _ ?_
          clear hM M
          refine pops_done (hR21 _ ?_)
          clear hR21 R21
          try simp only [thenK, scopeK]
          refine hN20 _ ?_
          clear hN20 N20
          refine pwp_ret ?_
          simp only [thenK, blockK, scopeK, bodyK]
          refine ⟨_, rfl, endFun s4 ?_⟩
          try simp only [upd_at, Nat.reduceEqDiff, if_true, if_false, g28_0]
          all_goals
            clear hm
            simp_all
      · skip
        refine pwp_skip ?_
        try simp only [thenK, scopeK]
        refine hN14 _ ?_
        clear hN14 N14
        refine pwp_then fun N22 hN22 => ?_
        refine pwp_reg fun R23 hR23 => ?_
        refine pops_to rfl fun M hM => ?_
        simp only [pop, St.eval, constSlot, upd_at, Nat.reduceEqDiff, if_true, if_false, eq_self, true_and, and_true, str_list, str_size, str_app, str_cut, str_get]
        refine hM _ _ ?_
        clear hM M
        refine pops_to rfl fun M hM => ?_
        simp only [pop, St.eval, constSlot, upd_at, Nat.reduceEqDiff, if_true, if_false, popCall, List.toList_toArray, List.map_cons, List.map_nil, svs, List.mapM_cons, List.mapM_nil, Option.bind_eq_bind, Option.bind_some, Option.pure_def, List.append_nil, List.cons_append, List.nil_append, eq_self, true_and, and_true, str_list, str_size, str_app, str_cut, str_get]
        refine PFun.use (names_join_fun W0 full xs hn hj) fun h5 s5 => hM _ _ ?_
        replace s5 := Same.trans s3 s5
        clear hM M
        refine pops_to rfl fun M hM => ?_
        simp only [pop, St.eval, constSlot, upd_at, Nat.reduceEqDiff, if_true, if_false, eq_self, true_and, and_true, str_list, str_size, str_app, str_cut, str_get]
        refine hM _ _ ?_
        clear hM M
        refine pops_to rfl fun M hM => ?_
        simp only [pop, St.eval, constSlot, upd_at, Nat.reduceEqDiff, if_true, if_false, List.getElem?_toArray, List.getElem?_cons_zero, List.getElem?_cons_succ, eq_self, true_and, and_true, str_list, str_size, str_app, str_cut, str_get]
        refine hM _ _ ?_
        clear hM M
        refine pops_to rfl fun M hM => ?_
        simp only [pop, St.eval, constSlot, upd_at, Nat.reduceEqDiff, if_true, if_false, List.getElem?_toArray, List.getElem?_cons_zero, List.getElem?_cons_succ, eq_self, true_and, and_true, str_list, str_size, str_app, str_cut, str_get]
        refine hM _ _ ?_
        clear hM M
        refine pops_to rfl fun M hM => ?_
        simp only [pop, St.eval, constSlot, upd_at, Nat.reduceEqDiff, if_true, if_false, eq_self, true_and, and_true, str_list, str_size, str_app, str_cut, str_get]
        refine hM _ _ ?_
        clear hM M
        refine pops_to rfl fun M hM => ?_
        simp only [pop, St.eval, constSlot, upd_at, Nat.reduceEqDiff, if_true, if_false, eq_self, true_and, and_true, str_list, str_size, str_app, str_cut, str_get]
        refine hM _ _ ?_
        clear hM M
        refine pops_done (hR23 _ ?_)
        clear hR23 R23
        try simp only [thenK, scopeK]
        refine hN22 _ ?_
        clear hN22 N22
        refine pwp_then fun N24 hN24 => ?_
        refine pwp_reg fun R25 hR25 => ?_
        refine pops_to rfl fun M hM => ?_
        simp only [pop, St.eval, constSlot, upd_at, Nat.reduceEqDiff, if_true, if_false, eq_self, true_and, and_true, str_list, str_size, str_app, str_cut, str_get]
        refine hM _ _ ?_
        clear hM M
        refine pops_to rfl fun M hM => ?_
        simp only [pop, St.eval, constSlot, upd_at, Nat.reduceEqDiff, if_true, if_false, eq_self, true_and, and_true, str_list, str_size, str_app, str_cut, str_get]
        refine hM _ _ ?_
        clear hM M
        refine pops_to rfl fun M hM => ?_
        simp only [pop, St.eval, constSlot, upd_at, Nat.reduceEqDiff, if_true, if_false, popBin, binK, intK, strK, eqK, Tryd.underlying9, isPtr, eq_self, true_and, and_true, str_list, str_size, str_app, str_cut, str_get]
        refine hM _ _ ?_
        clear hM M
        refine pops_to rfl fun M hM => ?_
        simp only [pop, St.eval, constSlot, upd_at, Nat.reduceEqDiff, if_true, if_false, eq_self, true_and, and_true, str_list, str_size, str_app, str_cut, str_get]
        refine hM _ _ ?_
        clear hM M
        refine pops_split 28 (by simp only [upd_at, Nat.reduceEqDiff, if_true, if_false] <;> rfl) (fun g28_0 => ?_) (fun g28_0 => ?_)
        · skip
          refine pops_do rfl rfl (by simp only [upd_at, Nat.reduceEqDiff, if_true, if_false, g28_0]) fun M hM => ?_
          simp only [pop, St.eval, constSlot, upd_at, Nat.reduceEqDiff, if_true, if_false, eq_self, true_and, and_true, str_list, str_size, str_app, str_cut, str_get, g28_0]
          refine hM _ _ ?_
          clear hM M
          refine pops_do rfl rfl (by simp only [upd_at, Nat.reduceEqDiff, if_true, if_false, g28_0]) fun M hM => ?_
          simp only [pop, St.eval, constSlot, upd_at, Nat.reduceEqDiff, if_true, if_false, eq_self, true_and, and_true, str_list, str_size, str_app, str_cut, str_get, g28_0]
          refine hM _ _ ?_
          clear hM M
          refine pops_do rfl rfl (by simp only [upd_at, Nat.reduceEqDiff, if_true, if_false, g28_0]) fun M hM => ?_
          simp only [pop, St.eval, constSlot, upd_at, Nat.reduceEqDiff, if_true, if_false, popBin, binK, intK, strK, eqK, Tryd.underlying31, isPtr, eq_self, true_and, and_true, str_list, str_size, str_app, str_cut, str_get, g28_0]
          refine hM _ _ ?_
          clear hM M
          refine pops_to rfl fun M hM => ?_
          simp only [pop, St.eval, constSlot, upd_at, Nat.reduceEqDiff, if_true, if_false, popIf, true_implies, false_implies, Bool.true_eq_false, Bool.false_eq_true, reduceCtorEq, eq_self, true_and, and_true, str_list, str_size, str_app, str_cut, str_get, g28_0]
          refine hM _ _ ?_
          clear hM M
          refine pops_to rfl fun M hM => ?_
          simp only [pop, St.eval, constSlot, upd_at, Nat.reduceEqDiff, if_true, if_false, eq_self, true_and, and_true, str_list, str_size, str_app, str_cut, str_get, g28_0]
          refine hM _ _ ?_
          clear hM M
          refine pops_done (hR25 _ ?_)
          clear hR25 R25
          try simp only [thenK, scopeK]
          refine hN24 _ ?_
          clear hN24 N24
          refine pwp_ret ?_
          simp only [thenK, blockK, scopeK, bodyK]
          refine ⟨_, rfl, endFun s5 ?_⟩
          try simp only [upd_at, Nat.reduceEqDiff, if_true, if_false, g28_0]
          all_goals
            clear hm
            simp_all
        · skip
          refine pops_off (b := false) rfl rfl (by simp only [upd_at, Nat.reduceEqDiff, if_true, if_false, g28_0]) (by decide) ?_
          refine pops_off (b := false) rfl rfl (by simp only [upd_at, Nat.reduceEqDiff, if_true, if_false, g28_0]) (by decide) ?_
          refine pops_off (b := false) rfl rfl (by simp only [upd_at, Nat.reduceEqDiff, if_true, if_false, g28_0]) (by decide) ?_
          refine pops_to rfl fun M hM => ?_
          simp only [pop, St.eval, constSlot, upd_at, Nat.reduceEqDiff, if_true, if_false, popIf, true_implies, false_implies, Bool.true_eq_false, Bool.false_eq_true, reduceCtorEq, eq_self, true_and, and_true, str_list, str_size, str_app, str_cut, str_get, g28_0]
          refine hM _ _ ?_
          clear hM M
          refine pops_to rfl fun M hM => ?_
          simp only [pop, St.eval, constSlot, upd_at, Nat.reduceEqDiff, if_true, if_false, eq_self, true_and, and_true, str_list, str_size, str_app, str_cut, str_get, g28_0]
          refine hM _ _ ?_
          clear hM M
          refine pops_done (hR25 _ ?_)
          clear hR25 R25
          try simp only [thenK, scopeK]
          refine hN24 _ ?_
          clear hN24 N24
          refine pwp_ret ?_
          simp only [thenK, blockK, scopeK, bodyK]
          refine ⟨_, rfl, endFun s5 ?_⟩
          try simp only [upd_at, Nat.reduceEqDiff, if_true, if_false, g28_0]
          all_goals
            clear hm
            simp_all
    · skip
      have ha : xs.all isNameB = true := by
        cases h9 : xs.all isNameB with
        | true => rfl
        | false => rw [← List.not_all_eq_any_not] at c11; simp [h9] at c11
      refine pwp_then fun N26 hN26 => ?_
      refine pwp_reg fun R27 hR27 => ?_
      refine pops_to rfl fun M hM => ?_
      simp only [pop, St.eval, constSlot, upd_at, Nat.reduceEqDiff, if_true, if_false, eq_self, true_and, and_true, str_list, str_size, str_app, str_cut, str_get]
      refine hM _ _ ?_
      clear hM M
      refine pops_to rfl fun M hM => ?_
      simp only [pop, St.eval, constSlot, upd_at, Nat.reduceEqDiff, if_true, if_false, popCall, List.toList_toArray, List.map_cons, List.map_nil, popBuiltin, popLen, lenOfSlot, List.length_map, Tryd.underlying9, eq_self, true_and, and_true, str_list, str_size, str_app, str_cut, str_get]
      refine hM _ _ ?_
      clear hM M
      refine pops_to rfl fun M hM => ?_
      simp only [pop, St.eval, constSlot, upd_at, Nat.reduceEqDiff, if_true, if_false, popBin, binK, intK, strK, eqK, eq_self, true_and, and_true, str_list, str_size, str_app, str_cut, str_get]
      refine hM _ _ ?_
      clear hM M
      refine pops_to rfl fun M hM => ?_
      simp only [pop, St.eval, constSlot, upd_at, Nat.reduceEqDiff, if_true, if_false, eq_self, true_and, and_true, str_list, str_size, str_app, str_cut, str_get]
      refine hM _ _ ?_
      clear hM M
      refine pops_done (hR27 _ ?_)
      clear hR27 R27
      try simp only [thenK, scopeK]
      refine hN26 _ ?_
      clear hN26 N26
      refine pwp_cond (by simp only [St.eval, upd_at, Nat.reduceEqDiff, if_true, if_false] <;> rfl) (fun c14 => ?_) (fun c14 => ?_)
      · skip
        have hl2 : 1024 < (Lib.join xs [47]).length := by have := of_decide_eq_true c14; omega
        have hjr := joinR_2 ha hl2
        refine pwp_reg fun R28 hR28 => ?_
        refine pops_to rfl fun M hM => ?_
        simp only [pop, St.eval, constSlot, upd_at, Nat.reduceEqDiff, if_true, if_false, eq_self, true_and, and_true, str_list, str_size, str_app, str_cut, str_get]
        refine hM _ _ ?_
        clear hM M
        refine pops_done (hR28 _ ?_)
        clear hR28 R28
        try simp only [blockK, thenK, scopeK]
        try simp only [thenK, scopeK]
        refine hN10 _ ?_
        clear hN10 N10
        refine pwp_then fun N29 hN29 => ?_
        refine pwp_then fun N30 hN30 => ?_
        refine pwp_reg fun R31 hR31 => ?_
        refine pops_to rfl fun M hM => ?_
        simp only [pop, St.eval, constSlot, upd_at, Nat.reduceEqDiff, if_true, if_false, eq_self, true_and, and_true, str_list, str_size, str_app, str_cut, str_get]
        refine hM _ _ ?_
        clear hM M
        refine pops_to rfl fun M hM => ?_
        simp only [pop, St.eval, constSlot, upd_at, Nat.reduceEqDiff, if_true, if_false, popBin, binK, intK, strK, eqK, Tryd.underlying31, isPtr, eq_self, true_and, and_true, str_list, str_size, str_app, str_cut, str_get]
        refine hM _ _ ?_
        clear hM M
        refine pops_done (hR31 _ ?_)
        clear hR31 R31
        try simp only [thenK, scopeK]
        refine hN30 _ ?_
        clear hN30 N30
        refine pwp_cond (by simp only [St.eval, upd_at, Nat.reduceEqDiff, if_true, if_false] <;> rfl) (fun c19 => ?_) (fun c19 => ?_)
        · skip
          refine pwp_reg fun R32 hR32 => ?_
          refine pops_to rfl fun M hM => ?_
          simp only [pop, St.eval, constSlot, upd_at, Nat.reduceEqDiff, if_true, if_false, eq_self, true_and, and_true, str_list, str_size, str_app, str_cut, str_get]
          refine hM _ _ ?_
          clear hM M
          refine pops_done (hR32 _ ?_)
          clear hR32 R32
          try simp only [thenK, scopeK]
          refine hN29 _ ?_
          clear hN29 N29
          refine pwp_then fun N33 hN33 => ?_
          refine pwp_reg fun R34 hR34 => ?_
          refine pops_to rfl fun M hM => ?_
          simp only [pop, St.eval, constSlot, upd_at, Nat.reduceEqDiff, if_true, if_false, eq_self, true_and, and_true, str_list, str_size, str_app, str_cut, str_get]
          refine hM _ _ ?_
          clear hM M
          refine pops_to rfl fun M hM => ?_
          simp only [pop, St.eval, constSlot, upd_at, Nat.reduceEqDiff, if_true, if_false, popCall, List.toList_toArray, List.map_cons, List.map_nil, svs, List.mapM_cons, List.mapM_nil, Option.bind_eq_bind, Option.bind_some, Option.pure_def, List.append_nil, List.cons_append, List.nil_append, eq_self, true_and, and_true, str_list, str_size, str_app, str_cut, str_get]
          refine PFun.use (names_join_fun W0 full xs hn hj) fun h6 s6 => hM _ _ ?_
          replace s6 := Same.trans s3 s6
          clear hM M
          refine pops_to rfl fun M hM => ?_
          simp only [pop, St.eval, constSlot, upd_at, Nat.reduceEqDiff, if_true, if_false, eq_self, true_and, and_true, str_list, str_size, str_app, str_cut, str_get]
          refine hM _ _ ?_
          clear hM M
          refine pops_to rfl fun M hM => ?_
          simp only [pop, St.eval, constSlot, upd_at, Nat.reduceEqDiff, if_true, if_false, List.getElem?_toArray, List.getElem?_cons_zero, List.getElem?_cons_succ, eq_self, true_and, and_true, str_list, str_size, str_app, str_cut, str_get]
          refine hM _ _ ?_
          clear hM M
          refine pops_to rfl fun M hM => ?_
          simp only [pop, St.eval, constSlot, upd_at, Nat.reduceEqDiff, if_true, if_false, List.getElem?_toArray, List.getElem?_cons_zero, List.getElem?_cons_succ, eq_self, true_and, and_true, str_list, str_size, str_app, str_cut, str_get]
          refine hM _ _ ?_
          clear hM M
          refine pops_to rfl fun M hM => ?_
          simp only [pop, St.eval, constSlot, upd_at, Nat.reduceEqDiff, if_true, if_false, eq_self, true_and, and_true, str_list, str_size, str_app, str_cut, str_get]
          refine hM _ _ ?_
          clear hM M
          refine pops_to rfl fun M hM => ?_
          simp only [pop, St.eval, constSlot, upd_at, Nat.reduceEqDiff, if_true, if_false, eq_self, true_and, and_true, str_list, str_size, str_app, str_cut, str_get]
          refine hM _ _ ?_
          clear hM M
          refine pops_done (hR34 _ ?_)
          clear hR34 R34
          try simp only [thenK, scopeK]
          refine hN33 _ ?_
          clear hN33 N33
          refine pwp_then fun N35 hN35 => ?_
          refine pwp_reg fun R36 hR36 => ?_
          refine pops_to rfl fun M hM => ?_
          simp only [pop, St.eval, constSlot, upd_at, Nat.reduceEqDiff, if_true, if_false, eq_self, true_and, and_true, str_list, str_size, str_app, str_cut, str_get]
          refine hM _ _ ?_
          clear hM M
          refine pops_to rfl fun M hM => ?_
          simp only [pop, St.eval, constSlot, upd_at, Nat.reduceEqDiff, if_true, if_false, eq_self, true_and, and_true, str_list, str_size, str_app, str_cut, str_get]
          refine hM _ _ ?_
          clear hM M
          refine pops_to rfl fun M hM => ?_
          simp only [pop, St.eval, constSlot, upd_at, Nat.reduceEqDiff, if_true, if_false, popBin, binK, intK, strK, eqK, Tryd.underlying9, isPtr, eq_self, true_and, and_true, str_list, str_size, str_app, str_cut, str_get]
          refine hM _ _ ?_
          clear hM M
          refine pops_to rfl fun M hM => ?_
          simp only [pop, St.eval, constSlot, upd_at, Nat.reduceEqDiff, if_true, if_false, eq_self, true_and, and_true, str_list, str_size, str_app, str_cut, str_get]
          refine hM _ _ ?_
          clear hM M
          refine pops_split 28 (by simp only [upd_at, Nat.reduceEqDiff, if_true, if_false] <;> rfl) (fun g28_0 => ?_) (fun g28_0 => ?_)
          · skip
            refine pops_do rfl rfl (by simp only [upd_at, Nat.reduceEqDiff, if_true, if_false, g28_0]) fun M hM => ?_
            simp only [pop, St.eval, constSlot, upd_at, Nat.reduceEqDiff, if_true, if_false, eq_self, true_and, and_true, str_list, str_size, str_app, str_cut, str_get, g28_0]
            refine hM _ _ ?_
            clear hM M
            refine pops_do rfl rfl (by simp only [upd_at, Nat.reduceEqDiff, if_true, if_false, g28_0]) fun M hM => ?_
            simp only [pop, St.eval, constSlot, upd_at, Nat.reduceEqDiff, if_true, if_false, eq_self, true_and, and_true, str_list, str_size, str_app, str_cut, str_get, g28_0]
            refine hM _ _ ?_
            clear hM M
            refine pops_do rfl rfl (by simp only [upd_at, Nat.reduceEqDiff, if_true, if_false, g28_0]) fun M hM => ?_
            simp only [pop, St.eval, constSlot, upd_at, Nat.reduceEqDiff, if_true, if_false, popBin, binK, intK, strK, eqK, Tryd.underlying31, isPtr, eq_self, true_and, and_true, str_list, str_size, str_app, str_cut, str_get, g28_0]
            refine hM _ _ ?_
            clear hM M
            refine pops_to rfl fun M hM => ?_
            simp only [pop, St.eval, constSlot, upd_at, Nat.reduceEqDiff, if_true, if_false, popIf, true_implies, false_implies, Bool.true_eq_false, Bool.false_eq_true, reduceCtorEq, eq_self, true_and, and_true, str_list, str_size, str_app, str_cut, str_get, g28_0]
            refine hM _ _ ?_
            clear hM M
            refine pops_to rfl fun M hM => ?_
            simp only [pop, St.eval, constSlot, upd_at, Nat.reduceEqDiff, if_true, if_false, eq_self, true_and, and_true, str_list, str_size, str_app, str_cut, str_get, g28_0]
            refine hM _ _ ?_
            clear hM M
            refine pops_done (hR36 _ ?_)
            clear hR36 R36
            try simp only [thenK, scopeK]
            refine hN35 _ ?_
            clear hN35 N35
            refine pwp_ret ?_
            simp only [thenK, blockK, scopeK, bodyK]
            refine ⟨_, rfl, endFun s6 ?_⟩
            try simp only [upd_at, Nat.reduceEqDiff, if_true, if_false, g28_0]
            all_goals
              clear hm
              simp_all
          · skip
            refine pops_off (b := false) rfl rfl (by simp only [upd_at, Nat.reduceEqDiff, if_true, if_false, g28_0]) (by decide) ?_
            refine pops_off (b := false) rfl rfl (by simp only [upd_at, Nat.reduceEqDiff, if_true, if_false, g28_0]) (by decide) ?_
            refine pops_off (b := false) rfl rfl (by simp only [upd_at, Nat.reduceEqDiff, if_true, if_false, g28_0]) (by decide) ?_
            refine pops_to rfl fun M hM => ?_
            simp only [pop, St.eval, constSlot, upd_at, Nat.reduceEqDiff, if_true, if_false, popIf, true_implies, false_implies, Bool.true_eq_false, Bool.false_eq_true, reduceCtorEq, eq_self, true_and, and_true, str_list, str_size, str_app, str_cut, str_get, g28_0]
            refine hM _ _ ?_
            clear hM M
            refine pops_to rfl fun M hM => ?_
            simp only [pop, St.eval, constSlot, upd_at, Nat.reduceEqDiff, if_true, if_false, eq_self, true_and, and_true, str_list, str_size, str_app, str_cut, str_get, g28_0]
            refine hM _ _ ?_
            clear hM M
            refine pops_done (hR36 _ ?_)
            clear hR36 R36
            try simp only [thenK, scopeK]
            refine hN35 _ ?_
            clear hN35 N35
            refine pwp_ret ?_
            simp only [thenK, blockK, scopeK, bodyK]
            refine ⟨_, rfl, endFun s6 ?_⟩
            try simp only [upd_at, Nat.reduceEqDiff, if_true, if_false, g28_0]
            all_goals
              clear hm
              simp_all
        · skip
          refine pwp_skip ?_
          try simp only [thenK, scopeK]
          refine hN29 _ ?_
          clear hN29 N29
          refine pwp_then fun N37 hN37 => ?_
          refine pwp_reg fun R38 hR38 => ?_
          refine pops_to rfl fun M hM => ?_
          simp only [pop, St.eval, constSlot, upd_at, Nat.reduceEqDiff, if_true, if_false, eq_self, true_and, and_true, str_list, str_size, str_app, str_cut, str_get]
          refine hM _ _ ?_
          clear hM M
          refine pops_to rfl fun M hM => ?_
          simp only [pop, St.eval, constSlot, upd_at, Nat.reduceEqDiff, if_true, if_false, popCall, List.toList_toArray, List.map_cons, List.map_nil, svs, List.mapM_cons, List.mapM_nil, Option.bind_eq_bind, Option.bind_some, Option.pure_def, List.append_nil, List.cons_append, List.nil_append, eq_self, true_and, and_true, str_list, str_size, str_app, str_cut, str_get]
          refine PFun.use (names_join_fun W0 full xs hn hj) fun h7 s7 => hM _ _ ?_
          replace s7 := Same.trans s3 s7
          clear hM M
          refine pops_to rfl fun M hM => ?_
          simp only [pop, St.eval, constSlot, upd_at, Nat.reduceEqDiff, if_true, if_false, eq_self, true_and, and_true, str_list, str_size, str_app, str_cut, str_get]
          refine hM _ _ ?_
          clear hM M
          refine pops_to rfl fun M hM => ?_
          simp only [pop, St.eval, constSlot, upd_at, Nat.reduceEqDiff, if_true, if_false, List.getElem?_toArray, List.getElem?_cons_zero, List.getElem?_cons_succ, eq_self, true_and, and_true, str_list, str_size, str_app, str_cut, str_get]
          refine hM _ _ ?_
          clear hM M
          refine pops_to rfl fun M hM => ?_
          simp only [pop, St.eval, constSlot, upd_at, Nat.reduceEqDiff, if_true, if_false, List.getElem?_toArray, List.getElem?_cons_zero, List.getElem?_cons_succ, eq_self, true_and, and_true, str_list, str_size, str_app, str_cut, str_get]
          refine hM _ _ ?_
          clear hM M
          refine pops_to rfl fun M hM => ?_
          simp only [pop, St.eval, constSlot, upd_at, Nat.reduceEqDiff, if_true, if_false, eq_self, true_and, and_true, str_list, str_size, str_app, str_cut, str_get]
          refine hM _ _ ?_
          clear hM M
          refine pops_to rfl fun M hM => ?_
          simp only [pop, St.eval, constSlot, upd_at, Nat.reduceEqDiff, if_true, if_false, eq_self, true_and, and_true, str_list, str_size, str_app, str_cut, str_get]
          refine hM _ _ ?_
          clear hM M
          refine pops_done (hR38 _ ?_)
          clear hR38 R38
          try simp only [thenK, scopeK]
          refine hN37 _ ?_
          clear hN37 N37
          refine pwp_then fun N39 hN39 => ?_
          refine pwp_reg fun R40 hR40 => ?_
          refine pops_to rfl fun M hM => ?_
          simp only [pop, St.eval, constSlot, upd_at, Nat.reduceEqDiff, if_true, if_false, eq_self, true_and, and_true, str_list, str_size, str_app, str_cut, str_get]
          refine hM _ _ ?_
          clear hM M
          refine pops_to rfl fun M hM => ?_
          simp only [pop, St.eval, constSlot, upd_at, Nat.reduceEqDiff, if_true, if_false, eq_self, true_and, and_true, str_list, str_size, str_app, str_cut, str_get]
          refine hM _ _ ?_
          clear hM M
          refine pops_to rfl fun M hM => ?_
          simp only [pop, St.eval, constSlot, upd_at, Nat.reduceEqDiff, if_true, if_false, popBin, binK, intK, strK, eqK, Tryd.underlying9, isPtr, eq_self, true_and, and_true, str_list, str_size, str_app, str_cut, str_get]
          refine hM _ _ ?_
          clear hM M
          refine pops_to rfl fun M hM => ?_
          simp only [pop, St.eval, constSlot, upd_at, Nat.reduceEqDiff, if_true, if_false, eq_self, true_and, and_true, str_list, str_size, str_app, str_cut, str_get]
          refine hM _ _ ?_
          clear hM M
          refine pops_split 28 (by simp only [upd_at, Nat.reduceEqDiff, if_true, if_false] <;> rfl) (fun g28_0 => ?_) (fun g28_0 => ?_)
          · skip
            refine pops_do rfl rfl (by simp only [upd_at, Nat.reduceEqDiff, if_true, if_false, g28_0]) fun M hM => ?_
            simp only [pop, St.eval, constSlot, upd_at, Nat.reduceEqDiff, if_true, if_false, eq_self, true_and, and_true, str_list, str_size, str_app, str_cut, str_get, g28_0]
            refine hM _ _ ?_
            clear hM M
            refine pops_do rfl rfl (by simp only [upd_at, Nat.reduceEqDiff, if_true, if_false, g28_0]) fun M hM => ?_
            simp only [pop, St.eval, constSlot, upd_at, Nat.reduceEqDiff, if_true, if_false, eq_self, true_and, and_true, str_list, str_size, str_app, str_cut, str_get, g28_0]
            refine hM _ _ ?_
            clear hM M
            refine pops_do rfl rfl (by simp only [upd_at, Nat.reduceEqDiff, if_true, if_false, g28_0]) fun M hM => ?_
            simp only [pop, St.eval, constSlot, upd_at, Nat.reduceEqDiff, if_true, if_false, popBin, binK, intK, strK, eqK, Tryd.underlying31, isPtr, eq_self, true_and, and_true, str_list, str_size, str_app, str_cut, str_get, g28_0]
            refine hM _ _ ?_
            clear hM M
            refine pops_to rfl fun M hM => ?_
            simp only [pop, St.eval, constSlot, upd_at, Nat.reduceEqDiff, if_true, if_false, popIf, true_implies, false_implies, Bool.true_eq_false, Bool.false_eq_true, reduceCtorEq, eq_self, true_and, and_true, str_list, str_size, str_app, str_cut, str_get, g28_0]
            refine hM _ _ ?_
            clear hM M
            refine pops_to rfl fun M hM => ?_
            simp only [pop, St.eval, constSlot, upd_at, Nat.reduceEqDiff, if_true, if_false, eq_self, true_and, and_true, str_list, str_size, str_app, str_cut, str_get, g28_0]
            refine hM _ _ ?_
            clear hM M
            refine pops_done (hR40 _ ?_)
            clear hR40 R40
            try simp only [thenK, scopeK]
            refine hN39 _ ?_
            clear hN39 N39
            refine pwp_ret ?_
            simp only [thenK, blockK, scopeK, bodyK]
            refine ⟨_, rfl, endFun s7 ?_⟩
            try simp only [upd_at, Nat.reduceEqDiff, if_true, if_false, g28_0]
            all_goals
              clear hm
              simp_all
          · skip
            refine pops_off (b := false) rfl rfl (by simp only [upd_at, Nat.reduceEqDiff, if_true, if_false, g28_0]) (by decide) ?_
            refine pops_off (b := false) rfl rfl (by simp only [upd_at, Nat.reduceEqDiff, if_true, if_false, g28_0]) (by decide) ?_
            refine pops_off (b := false) rfl rfl (by simp only [upd_at, Nat.reduceEqDiff, if_true, if_false, g28_0]) (by decide) ?_
            refine pops_to rfl fun M hM => ?_
            simp only [pop, St.eval, constSlot, upd_at, Nat.reduceEqDiff, if_true, if_false, popIf, true_implies, false_implies, Bool.true_eq_false, Bool.false_eq_true, reduceCtorEq, eq_self, true_and, and_true, str_list, str_size, str_app, str_cut, str_get, g28_0]
            refine hM _ _ ?_
            clear hM M
            refine pops_to rfl fun M hM => ?_
            simp only [pop, St.eval, constSlot, upd_at, Nat.reduceEqDiff, if_true, if_false, eq_self, true_and, and_true, str_list, str_size, str_app, str_cut, str_get, g28_0]
            refine hM _ _ ?_
            clear hM M
            refine pops_done (hR40 _ ?_)
            clear hR40 R40
            try simp only [thenK, scopeK]
            refine hN39 _ ?_
            clear hN39 N39
            refine pwp_ret ?_
            simp only [thenK, blockK, scopeK, bodyK]
            refine ⟨_, rfl, endFun s7 ?_⟩
            try simp only [upd_at, Nat.reduceEqDiff, if_true, if_false, g28_0]
            all_goals
              clear hm
              simp_all
      · skip
        have hl2 : ¬ 1024 < (Lib.join xs [47]).length := by have := of_decide_eq_false c14; omega
        have hjr := joinR_3 ha hl2
        refine pwp_skip ?_
        try simp only [blockK, thenK, scopeK]
        try simp only [thenK, scopeK]
        refine hN10 _ ?_
        clear hN10 N10
        refine pwp_then fun N41 hN41 => ?_
        refine pwp_then fun N42 hN42 => ?_
        refine pwp_reg fun R43 hR43 => ?_
        refine pops_to rfl fun M hM => ?_
        simp only [pop, St.eval, constSlot, upd_at, Nat.reduceEqDiff, if_true, if_false, eq_self, true_and, and_true, str_list, str_size, str_app, str_cut, str_get]
        refine hM _ _ ?_
        clear hM M
        refine pops_to rfl fun M hM => ?_
        simp only [pop, St.eval, constSlot, upd_at, Nat.reduceEqDiff, if_true, if_false, popBin, binK, intK, strK, eqK, Tryd.underlying31, isPtr, eq_self, true_and, and_true, str_list, str_size, str_app, str_cut, str_get]
        refine hM _ _ ?_
        clear hM M
        refine pops_done (hR43 _ ?_)
        clear hR43 R43
        try simp only [thenK, scopeK]
        refine hN42 _ ?_
        clear hN42 N42
        refine pwp_cond (by simp only [St.eval, upd_at, Nat.reduceEqDiff, if_true, if_false] <;> rfl) (fun c19 => ?_) (fun c19 => ?_)
        · skip
          refine pwp_reg fun R44 hR44 => ?_
          refine pops_to rfl fun M hM => ?_
          simp only [pop, St.eval, constSlot, upd_at, Nat.reduceEqDiff, if_true, if_false, eq_self, true_and, and_true, str_list, str_size, str_app, str_cut, str_get]
          refine hM _ _ ?_
          clear hM M
          refine pops_done (hR44 _ ?_)
          clear hR44 R44
          try simp only [thenK, scopeK]
          refine hN41 _ ?_
          clear hN41 N41
          refine pwp_then fun N45 hN45 => ?_
          refine pwp_reg fun R46 hR46 => ?_
          refine pops_to rfl fun M hM => ?_
          simp only [pop, St.eval, constSlot, upd_at, Nat.reduceEqDiff, if_true, if_false, eq_self, true_and, and_true, str_list, str_size, str_app, str_cut, str_get]
          refine hM _ _ ?_
          clear hM M
          refine pops_to rfl fun M hM => ?_
          simp only [pop, St.eval, constSlot, upd_at, Nat.reduceEqDiff, if_true, if_false, popCall, List.toList_toArray, List.map_cons, List.map_nil, svs, List.mapM_cons, List.mapM_nil, Option.bind_eq_bind, Option.bind_some, Option.pure_def, List.append_nil, List.cons_append, List.nil_append, eq_self, true_and, and_true, str_list, str_size, str_app, str_cut, str_get]
          refine PFun.use (names_join_fun W0 full xs hn hj) fun h8 s8 => hM _ _ ?_
          replace s8 := Same.trans s3 s8
          clear hM M
          refine pops_to rfl fun M hM => ?_
          simp only [pop, St.eval, constSlot, upd_at, Nat.reduceEqDiff, if_true, if_false, eq_self, true_and, and_true, str_list, str_size, str_app, str_cut, str_get]
          refine hM _ _ ?_
          clear hM M
          refine pops_to rfl fun M hM => ?_
          simp only [pop, St.eval, constSlot, upd_at, Nat.reduceEqDiff, if_true, if_false, List.getElem?_toArray, List.getElem?_cons_zero, List.getElem?_cons_succ, eq_self, true_and, and_true, str_list, str_size, str_app, str_cut, str_get]
          refine hM _ _ ?_
          clear hM M
          refine pops_to rfl fun M hM => ?_
          simp only [pop, St.eval, constSlot, upd_at, Nat.reduceEqDiff, if_true, if_false, List.getElem?_toArray, List.getElem?_cons_zero, List.getElem?_cons_succ, eq_self, true_and, and_true, str_list, str_size, str_app, str_cut, str_get]
          refine hM _ _ ?_
          clear hM M
          refine pops_to rfl fun M hM => ?_
          simp only [pop, St.eval, constSlot, upd_at, Nat.reduceEqDiff, if_true, if_false, eq_self, true_and, and_true, str_list, str_size, str_app, str_cut, str_get]
          refine hM _ _ ?_
          clear hM M
          refine pops_to rfl fun M hM => ?_
          simp only [pop, St.eval, constSlot, upd_at, Nat.reduceEqDiff, if_true, if_false, eq_self, true_and, and_true, str_list, str_size, str_app, str_cut, str_get]
          refine hM _ _ ?_
          clear hM M
          refine pops_done (hR46 _ ?_)
          clear hR46 R46
          try simp only [thenK, scopeK]
          refine hN45 _ ?_
          clear hN45 N45
          refine pwp_then fun N47 hN47 => ?_
          refine pwp_reg fun R48 hR48 => ?_
          refine pops_to rfl fun M hM => ?_
          simp only [pop, St.eval, constSlot, upd_at, Nat.reduceEqDiff, if_true, if_false, eq_self, true_and, and_true, str_list, str_size, str_app, str_cut, str_get]
          refine hM _ _ ?_
          clear hM M
          refine pops_to rfl fun M hM => ?_
          simp only [pop, St.eval, constSlot, upd_at, Nat.reduceEqDiff, if_true, if_false, eq_self, true_and, and_true, str_list, str_size, str_app, str_cut, str_get]
          refine hM _ _ ?_
          clear hM M
          refine pops_to rfl fun M hM => ?_
          simp only [pop, St.eval, constSlot, upd_at, Nat.reduceEqDiff, if_true, if_false, popBin, binK, intK, strK, eqK, Tryd.underlying9, isPtr, eq_self, true_and, and_true, str_list, str_size, str_app, str_cut, str_get]
          refine hM _ _ ?_
          clear hM M
          refine pops_to rfl fun M hM => ?_
          simp only [pop, St.eval, constSlot, upd_at, Nat.reduceEqDiff, if_true, if_false, eq_self, true_and, and_true, str_list, str_size, str_app, str_cut, str_get]
          refine hM _ _ ?_
          clear hM M
          refine pops_split 28 (by simp only [upd_at, Nat.reduceEqDiff, if_true, if_false] <;> rfl) (fun g28_0 => ?_) (fun g28_0 => ?_)
          · skip
            refine pops_do rfl rfl (by simp only [upd_at, Nat.reduceEqDiff, if_true, if_false, g28_0]) fun M hM => ?_
            simp only [pop, St.eval, constSlot, upd_at, Nat.reduceEqDiff, if_true, if_false, eq_self, true_and, and_true, str_list, str_size, str_app, str_cut, str_get, g28_0]
            refine hM _ _ ?_
            clear hM M
            refine pops_do rfl rfl (by simp only [upd_at, Nat.reduceEqDiff, if_true, if_false, g28_0]) fun M hM => ?_
            simp only [pop, St.eval, constSlot, upd_at, Nat.reduceEqDiff, if_true, if_false, eq_self, true_and, and_true, str_list, str_size, str_app, str_cut, str_get, g28_0]
            refine hM _ _ ?_
            clear hM M
            refine pops_do rfl rfl (by simp only [upd_at, Nat.reduceEqDiff, if_true, if_false, g28_0]) fun M hM => ?_
            simp only [pop, St.eval, constSlot, upd_at, Nat.reduceEqDiff, if_true, if_false, popBin, binK, intK, strK, eqK, Tryd.underlying31, isPtr, eq_self, true_and, and_true, str_list, str_size, str_app, str_cut, str_get, g28_0]
            refine hM _ _ ?_
            clear hM M
            refine pops_to rfl fun M hM => ?_
            simp only [pop, St.eval, constSlot, upd_at, Nat.reduceEqDiff, if_true, if_false, popIf, true_implies, false_implies, Bool.true_eq_false, Bool.false_eq_true, reduceCtorEq, eq_self, true_and, and_true, str_list, str_size, str_app, str_cut, str_get, g28_0]
            refine hM _ _ ?_
            clear hM M
            refine pops_to rfl fun M hM => ?_
            simp only [pop, St.eval, constSlot, upd_at, Nat.reduceEqDiff, if_true, if_false, eq_self, true_and, and_true, str_list, str_size, str_app, str_cut, str_get, g28_0]
            refine hM _ _ ?_
            clear hM M
            refine pops_done (hR48 _ ?_)
            clear hR48 R48
            try simp only [thenK, scopeK]
            refine hN47 _ ?_
            clear hN47 N47
            refine pwp_ret ?_
            simp only [thenK, blockK, scopeK, bodyK]
            refine ⟨_, rfl, endFun s8 ?_⟩
            try simp only [upd_at, Nat.reduceEqDiff, if_true, if_false, g28_0]
            all_goals
              clear hm
              simp_all
          · skip
            refine pops_off (b := false) rfl rfl (by simp only [upd_at, Nat.reduceEqDiff, if_true, if_false, g28_0]) (by decide) ?_
            refine pops_off (b := false) rfl rfl (by simp only [upd_at, Nat.reduceEqDiff, if_true, if_false, g28_0]) (by decide) ?_
            refine pops_off (b := false) rfl rfl (by simp only [upd_at, Nat.reduceEqDiff, if_true, if_false, g28_0]) (by decide) ?_
            refine pops_to rfl fun M hM => ?_
            simp only [pop, St.eval, constSlot, upd_at, Nat.reduceEqDiff, if_true, if_false, popIf, true_implies, false_implies, Bool.true_eq_false, Bool.false_eq_true, reduceCtorEq, eq_self, true_and, and_true, str_list, str_size, str_app, str_cut, str_get, g28_0]
            refine hM _ _ ?_
            clear hM M
            refine pops_to rfl fun M hM => ?_
            simp only [pop, St.eval, constSlot, upd_at, Nat.reduceEqDiff, if_true, if_false, eq_self, true_and, and_true, str_list, str_size, str_app, str_cut, str_get, g28_0]
            refine hM _ _ ?_
            clear hM M
            refine pops_done (hR48 _ ?_)
            clear hR48 R48
            try simp only [thenK, scopeK]
            refine hN47 _ ?_
            clear hN47 N47
            refine pwp_ret ?_
            simp only [thenK, blockK, scopeK, bodyK]
            refine ⟨_, rfl, endFun s8 ?_⟩
            try simp only [upd_at, Nat.reduceEqDiff, if_true, if_false, g28_0]
            all_goals
              clear hm
              simp_all
        · skip
          refine pwp_skip ?_
          try simp only [thenK, scopeK]
          refine hN41 _ ?_
          clear hN41 N41
          refine pwp_then fun N49 hN49 => ?_
          refine pwp_reg fun R50 hR50 => ?_
          refine pops_to rfl fun M hM => ?_
          simp only [pop, St.eval, constSlot, upd_at, Nat.reduceEqDiff, if_true, if_false, eq_self, true_and, and_true, str_list, str_size, str_app, str_cut, str_get]
          refine hM _ _ ?_
          clear hM M
          refine pops_to rfl fun M hM => ?_
          simp only [pop, St.eval, constSlot, upd_at, Nat.reduceEqDiff, if_true, if_false, popCall, List.toList_toArray, List.map_cons, List.map_nil, svs, List.mapM_cons, List.mapM_nil, Option.bind_eq_bind, Option.bind_some, Option.pure_def, List.append_nil, List.cons_append, List.nil_append, eq_self, true_and, and_true, str_list, str_size, str_app, str_cut, str_get]
          refine PFun.use (names_join_fun W0 full xs hn hj) fun h9 s9 => hM _ _ ?_
          replace s9 := Same.trans s3 s9
          clear hM M
          refine pops_to rfl fun M hM => ?_
          simp only [pop, St.eval, constSlot, upd_at, Nat.reduceEqDiff, if_true, if_false, eq_self, true_and, and_true, str_list, str_size, str_app, str_cut, str_get]
          refine hM _ _ ?_
          clear hM M
          refine pops_to rfl fun M hM => ?_
          simp only [pop, St.eval, constSlot, upd_at, Nat.reduceEqDiff, if_true, if_false, List.getElem?_toArray, List.getElem?_cons_zero, List.getElem?_cons_succ, eq_self, true_and, and_true, str_list, str_size, str_app, str_cut, str_get]
          refine hM _ _ ?_
          clear hM M
          refine pops_to rfl fun M hM => ?_
          simp only [pop, St.eval, constSlot, upd_at, Nat.reduceEqDiff, if_true, if_false, List.getElem?_toArray, List.getElem?_cons_zero, List.getElem?_cons_succ, eq_self, true_and, and_true, str_list, str_size, str_app, str_cut, str_get]
          refine hM _ _ ?_
          clear hM M
          refine pops_to rfl fun M hM => ?_
          simp only [pop, St.eval, constSlot, upd_at, Nat.reduceEqDiff, if_true, if_false, eq_self, true_and, and_true, str_list, str_size, str_app, str_cut, str_get]
          refine hM _ _ ?_
          clear hM M
          refine pops_to rfl fun M hM => ?_
          simp only [pop, St.eval, constSlot, upd_at, Nat.reduceEqDiff, if_true, if_false, eq_self, true_and, and_true, str_list, str_size, str_app, str_cut, str_get]
          refine hM _ _ ?_
          clear hM M
          refine pops_done (hR50 _ ?_)
          clear hR50 R50
          try simp only [thenK, scopeK]
          refine hN49 _ ?_
          clear hN49 N49
          refine pwp_then fun N51 hN51 => ?_
          refine pwp_reg fun R52 hR52 => ?_
          refine pops_to rfl fun M hM => ?_
          simp only [pop, St.eval, constSlot, upd_at, Nat.reduceEqDiff, if_true, if_false, eq_self, true_and, and_true, str_list, str_size, str_app, str_cut, str_get]
          refine hM _ _ ?_
          clear hM M
          refine pops_to rfl fun M hM => ?_
          simp only [pop, St.eval, constSlot, upd_at, Nat.reduceEqDiff, if_true, if_false, eq_self, true_and, and_true, str_list, str_size, str_app, str_cut, str_get]
          refine hM _ _ ?_
          clear hM M
          refine pops_to rfl fun M hM => ?_
          simp only [pop, St.eval, constSlot, upd_at, Nat.reduceEqDiff, if_true, if_false, popBin, binK, intK, strK, eqK, Tryd.underlying9, isPtr, eq_self, true_and, and_true, str_list, str_size, str_app, str_cut, str_get]
          refine hM _ _ ?_
          clear hM M
          refine pops_to rfl fun M hM => ?_
          simp only [pop, St.eval, constSlot, upd_at, Nat.reduceEqDiff, if_true, if_false, eq_self, true_and, and_true, str_list, str_size, str_app, str_cut, str_get]
          refine hM _ _ ?_
          clear hM M
          refine pops_split 28 (by simp only [upd_at, Nat.reduceEqDiff, if_true, if_false] <;> rfl) (fun g28_0 => ?_) (fun g28_0 => ?_)
          · skip
            refine pops_do rfl rfl (by simp only [upd_at, Nat.reduceEqDiff, if_true, if_false, g28_0]) fun M hM => ?_
            simp only [pop, St.eval, constSlot, upd_at, Nat.reduceEqDiff, if_true, if_false, eq_self, true_and, and_true, str_list, str_size, str_app, str_cut, str_get, g28_0]
            refine hM _ _ ?_
            clear hM M
            refine pops_do rfl rfl (by simp only [upd_at, Nat.reduceEqDiff, if_true, if_false, g28_0]) fun M hM => ?_
            simp only [pop, St.eval, constSlot, upd_at, Nat.reduceEqDiff, if_true, if_false, eq_self, true_and, and_true, str_list, str_size, str_app, str_cut, str_get, g28_0]
            refine hM _ _ ?_
            clear hM M
            refine pops_do rfl rfl (by simp only [upd_at, Nat.reduceEqDiff, if_true, if_false, g28_0]) fun M hM => ?_
            simp only [pop, St.eval, constSlot, upd_at, Nat.reduceEqDiff, if_true, if_false, popBin, binK, intK, strK, eqK, Tryd.underlying31, isPtr, eq_self, true_and, and_true, str_list, str_size, str_app, str_cut, str_get, g28_0]
            refine hM _ _ ?_
            clear hM M
            refine pops_to rfl fun M hM => ?_
            simp only [pop, St.eval, constSlot, upd_at, Nat.reduceEqDiff, if_true, if_false, popIf, true_implies, false_implies, Bool.true_eq_false, Bool.false_eq_true, reduceCtorEq, eq_self, true_and, and_true, str_list, str_size, str_app, str_cut, str_get, g28_0]
            refine hM _ _ ?_
            clear hM M
            refine pops_to rfl fun M hM => ?_
            simp only [pop, St.eval, constSlot, upd_at, Nat.reduceEqDiff, if_true, if_false, eq_self, true_and, and_true, str_list, str_size, str_app, str_cut, str_get, g28_0]
            refine hM _ _ ?_
            clear hM M
            refine pops_done (hR52 _ ?_)
            clear hR52 R52
            try simp only [thenK, scopeK]
            refine hN51 _ ?_
            clear hN51 N51
            refine pwp_ret ?_
            simp only [thenK, blockK, scopeK, bodyK]
            refine ⟨_, rfl, endFun s9 ?_⟩
            try simp only [upd_at, Nat.reduceEqDiff, if_true, if_false, g28_0]
            all_goals
              clear hm
              simp_all
          · skip
            refine pops_off (b := false) rfl rfl (by simp only [upd_at, Nat.reduceEqDiff, if_true, if_false, g28_0]) (by decide) ?_
            refine pops_off (b := false) rfl rfl (by simp only [upd_at, Nat.reduceEqDiff, if_true, if_false, g28_0]) (by decide) ?_
            refine pops_off (b := false) rfl rfl (by simp only [upd_at, Nat.reduceEqDiff, if_true, if_false, g28_0]) (by decide) ?_
            refine pops_to rfl fun M hM => ?_
            simp only [pop, St.eval, constSlot, upd_at, Nat.reduceEqDiff, if_true, if_false, popIf, true_implies, false_implies, Bool.true_eq_false, Bool.false_eq_true, reduceCtorEq, eq_self, true_and, and_true, str_list, str_size, str_app, str_cut, str_get, g28_0]
            refine hM _ _ ?_
            clear hM M
            refine pops_to rfl fun M hM => ?_
            simp only [pop, St.eval, constSlot, upd_at, Nat.reduceEqDiff, if_true, if_false, eq_self, true_and, and_true, str_list, str_size, str_app, str_cut, str_get, g28_0]
            refine hM _ _ ?_
            clear hM M
            refine pops_done (hR52 _ ?_)
            clear hR52 R52
            try simp only [thenK, scopeK]
            refine hN51 _ ?_
            clear hN51 N51
            refine pwp_ret ?_
            simp only [thenK, blockK, scopeK, bodyK]
            refine ⟨_, rfl, endFun s9 ?_⟩
            try simp only [upd_at, Nat.reduceEqDiff, if_true, if_false, g28_0]
            all_goals
              clear hm
              simp_all
end Go.Pw
