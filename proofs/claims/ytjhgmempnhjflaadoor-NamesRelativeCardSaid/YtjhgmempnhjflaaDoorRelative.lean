import Derived.Test.YtjhgmempnhjflaaDoorPaths
namespace Go.Pw
open Go Go.RowKit Go.Proofs
set_option maxRecDepth 100000
set_option linter.unusedSimpArgs false
set_option linter.unusedVariables false
theorem nm20 : (Tryd.f20.name == "runtime.NumGoroutine") = false := by kernel_rfl
theorem relative_fun (W0 : World) (hm : HasMax W0) (d p : List UInt8) :
    PFun Tryd.prog W0 20 [.one (pstr d), .one (pstr p)] (.tup [.one (pstr (relR d p).1), .one (pint (relR d p).2)]) := by
  intro h
  refine pcalls2 (n := 32) Tryd.func20 rfl nm20 rfl fun hb => ?_
  refine pwp_then fun N1 hN1 => ?_
  refine pwp_reg fun R2 hR2 => ?_
  refine pops_to rfl fun M hM => ?_
  simp only [pop, St.eval, constSlot, upd_at, Nat.reduceEqDiff, if_true, if_false, eq_self, true_and, and_true, str_list, str_size, str_app, str_cut, str_get]
  refine hM _ _ ?_
  clear hM M
  refine pops_to rfl fun M hM => ?_
  simp only [pop, St.eval, constSlot, upd_at, Nat.reduceEqDiff, if_true, if_false, eq_self, true_and, and_true, str_list, str_size, str_app, str_cut, str_get]
  refine hM _ _ ?_
  clear hM M
  refine pops_done (hR2 _ ?_)
  clear hR2 R2
  try simp only [thenK, scopeK]
  refine hN1 _ ?_
  clear hN1 N1
  refine pwp_then fun N3 hN3 => ?_
  refine pwp_then fun N4 hN4 => ?_
  refine pwp_reg fun R5 hR5 => ?_
  refine pops_to rfl fun M hM => ?_
  simp only [pop, St.eval, constSlot, upd_at, Nat.reduceEqDiff, if_true, if_false, eq_self, true_and, and_true, str_list, str_size, str_app, str_cut, str_get]
  refine hM _ _ ?_
  clear hM M
  refine pops_to rfl fun M hM => ?_
  simp only [pop, St.eval, constSlot, upd_at, Nat.reduceEqDiff, if_true, if_false, eq_self, true_and, and_true, str_list, str_size, str_app, str_cut, str_get]
  refine hM _ _ ?_
  clear hM M
  refine pops_to rfl fun M hM => ?_
  simp only [pop, St.eval, constSlot, upd_at, Nat.reduceEqDiff, if_true, if_false, popBuildSlice, slotCells, List.toList_toArray, List.map_cons, List.map_nil, List.mapM_cons, List.mapM_nil, Option.bind_eq_bind, Option.bind_some, Option.pure_def, Tryd.underlying49, sz9, ze9, by9, eq_self, true_and, and_true, str_list, str_size, str_app, str_cut, str_get]
  refine ⟨by decide, by decide, rfl, rfl, by simp, by decide, rfl, hM _ _ ?_⟩
  clear hM M
  refine pops_to rfl fun M hM => ?_
  simp only [pop, St.eval, constSlot, upd_at, Nat.reduceEqDiff, if_true, if_false, popCall, List.toList_toArray, List.map_cons, List.map_nil, svs, List.mapM_cons, List.mapM_nil, Option.bind_eq_bind, Option.bind_some, Option.pure_def, List.append_nil, List.cons_append, List.nil_append, eq_self, true_and, and_true, str_list, str_size, str_app, str_cut, str_get]
  refine PFun.use (checkAll_fun W0 hm true [d, p] (by simp)) fun h1 s1 => hM _ _ ?_
  replace s1 := Same.trans (Same.refl _) s1
  clear hM M
  refine pops_to rfl fun M hM => ?_
  simp only [pop, St.eval, constSlot, upd_at, Nat.reduceEqDiff, if_true, if_false, eq_self, true_and, and_true, str_list, str_size, str_app, str_cut, str_get]
  refine hM _ _ ?_
  clear hM M
  refine pops_done (hR5 _ ?_)
  clear hR5 R5
  try simp only [thenK, scopeK]
  refine hN4 _ ?_
  clear hN4 N4
  refine pwp_then fun N6 hN6 => ?_
  refine pwp_reg fun R7 hR7 => ?_
  refine pops_to rfl fun M hM => ?_
  simp only [pop, St.eval, constSlot, upd_at, Nat.reduceEqDiff, if_true, if_false, eq_self, true_and, and_true, str_list, str_size, str_app, str_cut, str_get]
  refine hM _ _ ?_
  clear hM M
  refine pops_to rfl fun M hM => ?_
  simp only [pop, St.eval, constSlot, upd_at, Nat.reduceEqDiff, if_true, if_false, popBin, binK, intK, strK, eqK, Tryd.underlying31, isPtr, eq_self, true_and, and_true, str_list, str_size, str_app, str_cut, str_get]
  refine hM _ _ ?_
  clear hM M
  refine pops_done (hR7 _ ?_)
  clear hR7 R7
  try simp only [thenK, scopeK]
  refine hN6 _ ?_
  clear hN6 N6
  refine pwp_cond (by simp only [St.eval, upd_at, Nat.reduceEqDiff, if_true, if_false] <;> rfl) (fun c12 => ?_) (fun c12 => ?_)
  · skip
    have hall : [d, p].all isPathB = false := by
      cases h9 : [d, p].all isPathB with
      | false => rfl
      | true => rw [h9] at c12; simp at c12
    refine pwp_then fun N8 hN8 => ?_
    refine pwp_reg fun R9 hR9 => ?_
    refine pops_to rfl fun M hM => ?_
    simp only [pop, St.eval, constSlot, upd_at, Nat.reduceEqDiff, if_true, if_false, eq_self, true_and, and_true, str_list, str_size, str_app, str_cut, str_get]
    refine hM _ _ ?_
    clear hM M
    refine pops_to rfl fun M hM => ?_
    simp only [pop, St.eval, constSlot, upd_at, Nat.reduceEqDiff, if_true, if_false, eq_self, true_and, and_true, str_list, str_size, str_app, str_cut, str_get]
    refine hM _ _ ?_
    clear hM M
    refine pops_to rfl fun M hM => ?_
    simp only [pop, St.eval, constSlot, upd_at, Nat.reduceEqDiff, if_true, if_false, eq_self, true_and, and_true, str_list, str_size, str_app, str_cut, str_get]
    refine hM _ _ ?_
    clear hM M
    refine pops_done (hR9 _ ?_)
    clear hR9 R9
    try simp only [thenK, scopeK]
    refine hN8 _ ?_
    clear hN8 N8
    refine pwp_ret ?_
    simp only [thenK, blockK, scopeK, bodyK]
    clear hN3 N3
    refine ⟨_, rfl, endFun s1 ?_⟩
    try simp only [upd_at, Nat.reduceEqDiff, if_true, if_false]
    all_goals
      rw [relR_1 hall, hall]
      rfl
  · skip
    have hall : [d, p].all isPathB = true := by
      cases h9 : [d, p].all isPathB with
      | true => rfl
      | false => rw [h9] at c12; simp at c12
    have hd := isPathB_len (List.all_eq_true.1 hall d (by simp))
    have hp := isPathB_len (List.all_eq_true.1 hall p (by simp))
    have hw := wrap_succ (i := d.length) (by omega)
    refine pwp_skip ?_
    try simp only [thenK, scopeK]
    refine hN3 _ ?_
    clear hN3 N3
    refine pwp_then fun N10 hN10 => ?_
    refine pwp_block ?_
    refine pwp_then fun N11 hN11 => ?_
    refine pwp_reg fun R12 hR12 => ?_
    refine pops_to rfl fun M hM => ?_
    simp only [pop, St.eval, constSlot, upd_at, Nat.reduceEqDiff, if_true, if_false, eq_self, true_and, and_true, str_list, str_size, str_app, str_cut, str_get]
    refine hM _ _ ?_
    clear hM M
    refine pops_to rfl fun M hM => ?_
    simp only [pop, St.eval, constSlot, upd_at, Nat.reduceEqDiff, if_true, if_false, popBin, binK, intK, strK, eqK, Tryd.underlying9, isPtr, eq_self, true_and, and_true, str_list, str_size, str_app, str_cut, str_get]
    refine hM _ _ ?_
    clear hM M
    refine pops_to rfl fun M hM => ?_
    simp only [pop, St.eval, constSlot, upd_at, Nat.reduceEqDiff, if_true, if_false, eq_self, true_and, and_true, str_list, str_size, str_app, str_cut, str_get]
    refine hM _ _ ?_
    clear hM M
    refine pops_done (hR12 _ ?_)
    clear hR12 R12
    try simp only [thenK, scopeK]
    refine hN11 _ ?_
    clear hN11 N11
    refine pwp_cond (by simp only [St.eval, upd_at, Nat.reduceEqDiff, if_true, if_false] <;> rfl) (fun c14 => ?_) (fun c14 => ?_)
    · skip
      have hs : d = [] := by simpa using c14
      refine pwp_then fun N13 hN13 => ?_
      refine pwp_reg fun R14 hR14 => ?_
      refine pops_to rfl fun M hM => ?_
      simp only [pop, St.eval, constSlot, upd_at, Nat.reduceEqDiff, if_true, if_false, eq_self, true_and, and_true, str_list, str_size, str_app, str_cut, str_get]
      refine hM _ _ ?_
      clear hM M
      refine pops_to rfl fun M hM => ?_
      simp only [pop, St.eval, constSlot, upd_at, Nat.reduceEqDiff, if_true, if_false, eq_self, true_and, and_true, str_list, str_size, str_app, str_cut, str_get]
      refine hM _ _ ?_
      clear hM M
      refine pops_to rfl fun M hM => ?_
      simp only [pop, St.eval, constSlot, upd_at, Nat.reduceEqDiff, if_true, if_false, eq_self, true_and, and_true, str_list, str_size, str_app, str_cut, str_get]
      refine hM _ _ ?_
      clear hM M
      refine pops_done (hR14 _ ?_)
      clear hR14 R14
      try simp only [thenK, scopeK]
      refine hN13 _ ?_
      clear hN13 N13
      refine pwp_ret ?_
      simp only [thenK, blockK, scopeK, bodyK]
      clear hN10 N10
      refine ⟨_, rfl, endFun s1 ?_⟩
      try simp only [upd_at, Nat.reduceEqDiff, if_true, if_false]
      all_goals
        rw [relR_2 hall hs]
    · skip
      have hs : ¬ d = [] := by simpa using c14
      refine pwp_then fun N15 hN15 => ?_
      refine pwp_reg fun R16 hR16 => ?_
      refine pops_to rfl fun M hM => ?_
      simp only [pop, St.eval, constSlot, upd_at, Nat.reduceEqDiff, if_true, if_false, eq_self, true_and, and_true, str_list, str_size, str_app, str_cut, str_get]
      refine hM _ _ ?_
      clear hM M
      refine pops_to rfl fun M hM => ?_
      simp only [pop, St.eval, constSlot, upd_at, Nat.reduceEqDiff, if_true, if_false, eq_self, true_and, and_true, str_list, str_size, str_app, str_cut, str_get]
      refine hM _ _ ?_
      clear hM M
      refine pops_to rfl fun M hM => ?_
      simp only [pop, St.eval, constSlot, upd_at, Nat.reduceEqDiff, if_true, if_false, popBin, binK, intK, strK, eqK, Tryd.underlying9, isPtr, eq_self, true_and, and_true, str_list, str_size, str_app, str_cut, str_get]
      refine hM _ _ ?_
      clear hM M
      refine pops_to rfl fun M hM => ?_
      simp only [pop, St.eval, constSlot, upd_at, Nat.reduceEqDiff, if_true, if_false, eq_self, true_and, and_true, str_list, str_size, str_app, str_cut, str_get]
      refine hM _ _ ?_
      clear hM M
      refine pops_done (hR16 _ ?_)
      clear hR16 R16
      try simp only [thenK, scopeK]
      refine hN15 _ ?_
      clear hN15 N15
      refine pwp_cond (by simp only [St.eval, upd_at, Nat.reduceEqDiff, if_true, if_false] <;> rfl) (fun c18 => ?_) (fun c18 => ?_)
      · skip
        have he : d = p := by simpa using c18
        refine pwp_then fun N17 hN17 => ?_
        refine pwp_reg fun R18 hR18 => ?_
        refine pops_to rfl fun M hM => ?_
        simp only [pop, St.eval, constSlot, upd_at, Nat.reduceEqDiff, if_true, if_false, eq_self, true_and, and_true, str_list, str_size, str_app, str_cut, str_get]
        refine hM _ _ ?_
        clear hM M
        refine pops_to rfl fun M hM => ?_
        simp only [pop, St.eval, constSlot, upd_at, Nat.reduceEqDiff, if_true, if_false, eq_self, true_and, and_true, str_list, str_size, str_app, str_cut, str_get]
        refine hM _ _ ?_
        clear hM M
        refine pops_done (hR18 _ ?_)
        clear hR18 R18
        try simp only [thenK, scopeK]
        refine hN17 _ ?_
        clear hN17 N17
        refine pwp_ret ?_
        simp only [thenK, blockK, scopeK, bodyK]
        clear hN10 N10
        refine ⟨_, rfl, endFun s1 ?_⟩
        try simp only [upd_at, Nat.reduceEqDiff, if_true, if_false]
        all_goals
          rw [relR_3 hall he]
      · skip
        have he : ¬ d = p := by simpa using c18
        refine pwp_then fun N19 hN19 => ?_
        refine pwp_reg fun R20 hR20 => ?_
        refine pops_to rfl fun M hM => ?_
        simp only [pop, St.eval, constSlot, upd_at, Nat.reduceEqDiff, if_true, if_false, eq_self, true_and, and_true, str_list, str_size, str_app, str_cut, str_get]
        refine hM _ _ ?_
        clear hM M
        refine pops_to rfl fun M hM => ?_
        simp only [pop, St.eval, constSlot, upd_at, Nat.reduceEqDiff, if_true, if_false, eq_self, true_and, and_true, str_list, str_size, str_app, str_cut, str_get]
        refine hM _ _ ?_
        clear hM M
        refine pops_to rfl fun M hM => ?_
        simp only [pop, St.eval, constSlot, upd_at, Nat.reduceEqDiff, if_true, if_false, popBin, binK, intK, strK, eqK, eq_self, true_and, and_true, str_list, str_size, str_app, str_cut, str_get]
        refine ⟨by simp; omega, hM _ _ ?_⟩
        clear hM M
        refine pops_to rfl fun M hM => ?_
        simp only [pop, St.eval, constSlot, upd_at, Nat.reduceEqDiff, if_true, if_false, popCall, List.toList_toArray, List.map_cons, List.map_nil, svs, List.mapM_cons, List.mapM_nil, Option.bind_eq_bind, Option.bind_some, Option.pure_def, List.append_nil, List.cons_append, List.nil_append, eq_self, true_and, and_true, str_list, str_size, str_app, str_cut, str_get]
        refine PFun.use (hasPrefix_fun W0 p (d ++ [47])) fun h2 s2 => hM _ _ ?_
        replace s2 := Same.trans s1 s2
        clear hM M
        refine pops_to rfl fun M hM => ?_
        simp only [pop, St.eval, constSlot, upd_at, Nat.reduceEqDiff, if_true, if_false, eq_self, true_and, and_true, str_list, str_size, str_app, str_cut, str_get]
        refine hM _ _ ?_
        clear hM M
        refine pops_done (hR20 _ ?_)
        clear hR20 R20
        try simp only [thenK, scopeK]
        refine hN19 _ ?_
        clear hN19 N19
        refine pwp_cond (by simp only [St.eval, upd_at, Nat.reduceEqDiff, if_true, if_false] <;> rfl) (fun c22 => ?_) (fun c22 => ?_)
        · skip
          have hpre := c22
          simp only [Lib.hasPrefix, List.isPrefixOf_iff_prefix] at hpre
          have hlp : d.length + 1 ≤ p.length := by have := hpre.length_le; simp at this; omega
          refine pwp_then fun N21 hN21 => ?_
          refine pwp_reg fun R22 hR22 => ?_
          refine pops_to rfl fun M hM => ?_
          simp only [pop, St.eval, constSlot, upd_at, Nat.reduceEqDiff, if_true, if_false, eq_self, true_and, and_true, str_list, str_size, str_app, str_cut, str_get]
          refine hM _ _ ?_
          clear hM M
          refine pops_to rfl fun M hM => ?_
          simp only [pop, St.eval, constSlot, upd_at, Nat.reduceEqDiff, if_true, if_false, eq_self, true_and, and_true, str_list, str_size, str_app, str_cut, str_get]
          refine hM _ _ ?_
          clear hM M
          refine pops_to rfl fun M hM => ?_
          simp only [pop, St.eval, constSlot, upd_at, Nat.reduceEqDiff, if_true, if_false, popCall, List.toList_toArray, List.map_cons, List.map_nil, popBuiltin, popLen, lenOfSlot, List.length_map, Tryd.underlying9, eq_self, true_and, and_true, str_list, str_size, str_app, str_cut, str_get]
          refine hM _ _ ?_
          clear hM M
          refine pops_to rfl fun M hM => ?_
          simp only [pop, St.eval, constSlot, upd_at, Nat.reduceEqDiff, if_true, if_false, popBin, binK, intK, strK, eqK, eq_self, true_and, and_true, str_list, str_size, str_app, str_cut, str_get, hw]
          refine hM _ _ ?_
          clear hM M
          refine pops_to rfl fun M hM => ?_
          simp only [pop, St.eval, constSlot, upd_at, Nat.reduceEqDiff, if_true, if_false, popSlice, boundOf, Option.map_none, Option.map_some, Tryd.underlying9, eq_self, true_and, and_true, str_list, str_size, str_app, str_cut, str_get]
          refine ⟨Int.natCast_nonneg _, by omega, by omega, hM _ _ ?_⟩
          clear hM M
          refine pops_to rfl fun M hM => ?_
          simp only [pop, St.eval, constSlot, upd_at, Nat.reduceEqDiff, if_true, if_false, eq_self, true_and, and_true, str_list, str_size, str_app, str_cut, str_get]
          refine hM _ _ ?_
          clear hM M
          refine pops_to rfl fun M hM => ?_
          simp only [pop, St.eval, constSlot, upd_at, Nat.reduceEqDiff, if_true, if_false, eq_self, true_and, and_true, str_list, str_size, str_app, str_cut, str_get]
          refine hM _ _ ?_
          clear hM M
          refine pops_done (hR22 _ ?_)
          clear hR22 R22
          try simp only [thenK, scopeK]
          refine hN21 _ ?_
          clear hN21 N21
          refine pwp_ret ?_
          simp only [thenK, blockK, scopeK, bodyK]
          clear hN10 N10
          refine ⟨_, rfl, endFun s2 ?_⟩
          try simp only [upd_at, Nat.reduceEqDiff, if_true, if_false]
          all_goals
            rw [relR_4 hall hs he c22]
            simp
        · skip
          refine pwp_skip ?_
          try simp only [blockK, thenK, scopeK]
          try simp only [thenK, scopeK]
          refine hN10 _ ?_
          clear hN10 N10
          refine pwp_then fun N23 hN23 => ?_
          refine pwp_reg fun R24 hR24 => ?_
          refine pops_to rfl fun M hM => ?_
          simp only [pop, St.eval, constSlot, upd_at, Nat.reduceEqDiff, if_true, if_false, eq_self, true_and, and_true, str_list, str_size, str_app, str_cut, str_get]
          refine hM _ _ ?_
          clear hM M
          refine pops_to rfl fun M hM => ?_
          simp only [pop, St.eval, constSlot, upd_at, Nat.reduceEqDiff, if_true, if_false, eq_self, true_and, and_true, str_list, str_size, str_app, str_cut, str_get]
          refine hM _ _ ?_
          clear hM M
          refine pops_done (hR24 _ ?_)
          clear hR24 R24
          try simp only [thenK, scopeK]
          refine hN23 _ ?_
          clear hN23 N23
          refine pwp_ret ?_
          simp only [thenK, blockK, scopeK, bodyK]
          refine ⟨_, rfl, endFun s2 ?_⟩
          try simp only [upd_at, Nat.reduceEqDiff, if_true, if_false]
          all_goals
            rw [relR_5 hall hs he c22]

theorem nm5 : (Tryd.f5.name == "runtime.NumGoroutine") = false := by kernel_rfl
theorem relative_law (W0 : World) (hm : HasMax W0) (d p : List UInt8) :
    PFun Tryd.prog W0 5 [.one (pstr d), .one (pstr p)] (.sv (.one (pbool true))) := by
  intro h
  refine pcalls2 (n := 71) Tryd.func5 rfl nm5 rfl fun hb => ?_
  refine pwp_then fun N1 hN1 => ?_
  refine pwp_reg fun R2 hR2 => ?_
  refine pops_to rfl fun M hM => ?_
  simp only [pop, St.eval, constSlot, upd_at, Nat.reduceEqDiff, if_true, if_false, eq_self, true_and, and_true, str_list, str_size, str_app, str_cut, str_get]
  refine hM _ _ ?_
  clear hM M
  refine pops_done (hR2 _ ?_)
  clear hR2 R2
  try simp only [thenK, scopeK]
  refine hN1 _ ?_
  clear hN1 N1
  refine pwp_then fun N3 hN3 => ?_
  refine pwp_then fun N4 hN4 => ?_
  refine pwp_reg fun R5 hR5 => ?_
  refine pops_to rfl fun M hM => ?_
  simp only [pop, St.eval, constSlot, upd_at, Nat.reduceEqDiff, if_true, if_false, popCall, List.toList_toArray, List.map_cons, List.map_nil, svs, List.mapM_cons, List.mapM_nil, Option.bind_eq_bind, Option.bind_some, Option.pure_def, List.append_nil, List.cons_append, List.nil_append, eq_self, true_and, and_true, str_list, str_size, str_app, str_cut, str_get]
  refine PFun.use (landed_fun W0 hm) fun h1 s1 => hM _ _ ?_
  replace s1 := Same.trans (Same.refl _) s1
  clear hM M
  refine pops_to rfl fun M hM => ?_
  simp only [pop, St.eval, constSlot, upd_at, Nat.reduceEqDiff, if_true, if_false, unK, eq_self, true_and, and_true, str_list, str_size, str_app, str_cut, str_get]
  refine hM _ _ ?_
  clear hM M
  refine pops_done (hR5 _ ?_)
  clear hR5 R5
  try simp only [thenK, scopeK]
  refine hN4 _ ?_
  clear hN4 N4
  refine pwp_cond (by simp only [St.eval, upd_at, Nat.reduceEqDiff, if_true, if_false] <;> rfl) (fun c9 => ?_) (fun c9 => ?_)
  · skip
    simp at c9
  · skip
    refine pwp_skip ?_
    try simp only [thenK, scopeK]
    refine hN3 _ ?_
    clear hN3 N3
    refine pwp_then fun N6 hN6 => ?_
    refine pwp_reg fun R7 hR7 => ?_
    refine pops_to rfl fun M hM => ?_
    simp only [pop, St.eval, constSlot, upd_at, Nat.reduceEqDiff, if_true, if_false, eq_self, true_and, and_true, str_list, str_size, str_app, str_cut, str_get]
    refine hM _ _ ?_
    clear hM M
    refine pops_to rfl fun M hM => ?_
    simp only [pop, St.eval, constSlot, upd_at, Nat.reduceEqDiff, if_true, if_false, eq_self, true_and, and_true, str_list, str_size, str_app, str_cut, str_get]
    refine hM _ _ ?_
    clear hM M
    refine pops_to rfl fun M hM => ?_
    simp only [pop, St.eval, constSlot, upd_at, Nat.reduceEqDiff, if_true, if_false, popCall, List.toList_toArray, List.map_cons, List.map_nil, svs, List.mapM_cons, List.mapM_nil, Option.bind_eq_bind, Option.bind_some, Option.pure_def, List.append_nil, List.cons_append, List.nil_append, eq_self, true_and, and_true, str_list, str_size, str_app, str_cut, str_get]
    refine PFun.use (relative_fun W0 hm d p) fun h2 s2 => hM _ _ ?_
    replace s2 := Same.trans s1 s2
    clear hM M
    refine pops_to rfl fun M hM => ?_
    simp only [pop, St.eval, constSlot, upd_at, Nat.reduceEqDiff, if_true, if_false, eq_self, true_and, and_true, str_list, str_size, str_app, str_cut, str_get]
    refine hM _ _ ?_
    clear hM M
    refine pops_to rfl fun M hM => ?_
    simp only [pop, St.eval, constSlot, upd_at, Nat.reduceEqDiff, if_true, if_false, List.getElem?_toArray, List.getElem?_cons_zero, List.getElem?_cons_succ, eq_self, true_and, and_true, str_list, str_size, str_app, str_cut, str_get]
    refine hM _ _ ?_
    clear hM M
    refine pops_to rfl fun M hM => ?_
    simp only [pop, St.eval, constSlot, upd_at, Nat.reduceEqDiff, if_true, if_false, List.getElem?_toArray, List.getElem?_cons_zero, List.getElem?_cons_succ, eq_self, true_and, and_true, str_list, str_size, str_app, str_cut, str_get]
    refine hM _ _ ?_
    clear hM M
    refine pops_to rfl fun M hM => ?_
    simp only [pop, St.eval, constSlot, upd_at, Nat.reduceEqDiff, if_true, if_false, eq_self, true_and, and_true, str_list, str_size, str_app, str_cut, str_get]
    refine hM _ _ ?_
    clear hM M
    refine pops_to rfl fun M hM => ?_
    simp only [pop, St.eval, constSlot, upd_at, Nat.reduceEqDiff, if_true, if_false, eq_self, true_and, and_true, str_list, str_size, str_app, str_cut, str_get]
    refine hM _ _ ?_
    clear hM M
    refine pops_done (hR7 _ ?_)
    clear hR7 R7
    try simp only [thenK, scopeK]
    refine hN6 _ ?_
    clear hN6 N6
    refine pwp_then fun N8 hN8 => ?_
    refine pwp_then fun N9 hN9 => ?_
    refine pwp_reg fun R10 hR10 => ?_
    refine pops_to rfl fun M hM => ?_
    simp only [pop, St.eval, constSlot, upd_at, Nat.reduceEqDiff, if_true, if_false, eq_self, true_and, and_true, str_list, str_size, str_app, str_cut, str_get]
    refine hM _ _ ?_
    clear hM M
    refine pops_to rfl fun M hM => ?_
    simp only [pop, St.eval, constSlot, upd_at, Nat.reduceEqDiff, if_true, if_false, eq_self, true_and, and_true, str_list, str_size, str_app, str_cut, str_get]
    refine hM _ _ ?_
    clear hM M
    refine pops_to rfl fun M hM => ?_
    simp only [pop, St.eval, constSlot, upd_at, Nat.reduceEqDiff, if_true, if_false, popBuildSlice, slotCells, List.toList_toArray, List.map_cons, List.map_nil, List.mapM_cons, List.mapM_nil, Option.bind_eq_bind, Option.bind_some, Option.pure_def, Tryd.underlying49, sz9, ze9, by9, eq_self, true_and, and_true, str_list, str_size, str_app, str_cut, str_get]
    refine ⟨by decide, by decide, rfl, rfl, by simp, by decide, rfl, hM _ _ ?_⟩
    clear hM M
    refine pops_to rfl fun M hM => ?_
    simp only [pop, St.eval, constSlot, upd_at, Nat.reduceEqDiff, if_true, if_false, popCall, List.toList_toArray, List.map_cons, List.map_nil, svs, List.mapM_cons, List.mapM_nil, Option.bind_eq_bind, Option.bind_some, Option.pure_def, List.append_nil, List.cons_append, List.nil_append, eq_self, true_and, and_true, str_list, str_size, str_app, str_cut, str_get]
    refine PFun.use (pathError_fun W0 hm true [d, p] (by simp)) fun h3 s3 => hM _ _ ?_
    replace s3 := Same.trans s2 s3
    clear hM M
    refine pops_to rfl fun M hM => ?_
    simp only [pop, St.eval, constSlot, upd_at, Nat.reduceEqDiff, if_true, if_false, eq_self, true_and, and_true, str_list, str_size, str_app, str_cut, str_get]
    refine hM _ _ ?_
    clear hM M
    refine pops_done (hR10 _ ?_)
    clear hR10 R10
    try simp only [thenK, scopeK]
    refine hN9 _ ?_
    clear hN9 N9
    refine pwp_then fun N11 hN11 => ?_
    refine pwp_reg fun R12 hR12 => ?_
    refine pops_to rfl fun M hM => ?_
    simp only [pop, St.eval, constSlot, upd_at, Nat.reduceEqDiff, if_true, if_false, eq_self, true_and, and_true, str_list, str_size, str_app, str_cut, str_get]
    refine hM _ _ ?_
    clear hM M
    refine pops_to rfl fun M hM => ?_
    simp only [pop, St.eval, constSlot, upd_at, Nat.reduceEqDiff, if_true, if_false, popBin, binK, intK, strK, eqK, Tryd.underlying31, isPtr, eq_self, true_and, and_true, str_list, str_size, str_app, str_cut, str_get]
    refine hM _ _ ?_
    clear hM M
    refine pops_done (hR12 _ ?_)
    clear hR12 R12
    try simp only [thenK, scopeK]
    refine hN11 _ ?_
    clear hN11 N11
    refine pwp_cond (by simp only [St.eval, upd_at, Nat.reduceEqDiff, if_true, if_false] <;> rfl) (fun c21 => ?_) (fun c21 => ?_)
    · skip
      have hall : [d, p].all isPathB = false := by
        cases h9 : [d, p].all isPathB with
        | false => rfl
        | true => rw [h9] at c21; simp at c21
      refine pwp_then fun N13 hN13 => ?_
      refine pwp_reg fun R14 hR14 => ?_
      refine pops_to rfl fun M hM => ?_
      simp only [pop, St.eval, constSlot, upd_at, Nat.reduceEqDiff, if_true, if_false, eq_self, true_and, and_true, str_list, str_size, str_app, str_cut, str_get]
      refine hM _ _ ?_
      clear hM M
      refine pops_to rfl fun M hM => ?_
      simp only [pop, St.eval, constSlot, upd_at, Nat.reduceEqDiff, if_true, if_false, eq_self, true_and, and_true, str_list, str_size, str_app, str_cut, str_get]
      refine hM _ _ ?_
      clear hM M
      refine pops_to rfl fun M hM => ?_
      simp only [pop, St.eval, constSlot, upd_at, Nat.reduceEqDiff, if_true, if_false, popBin, binK, intK, strK, eqK, Tryd.underlying31, isPtr, eq_self, true_and, and_true, str_list, str_size, str_app, str_cut, str_get]
      refine hM _ _ ?_
      clear hM M
      refine pops_to rfl fun M hM => ?_
      simp only [pop, St.eval, constSlot, upd_at, Nat.reduceEqDiff, if_true, if_false, eq_self, true_and, and_true, str_list, str_size, str_app, str_cut, str_get]
      refine hM _ _ ?_
      clear hM M
      refine pops_split 25 (by simp only [upd_at, Nat.reduceEqDiff, if_true, if_false] <;> rfl) (fun g25_0 => ?_) (fun g25_0 => ?_)
      · skip
        refine pops_do rfl rfl (by simp only [upd_at, Nat.reduceEqDiff, if_true, if_false, g25_0]) fun M hM => ?_
        simp only [pop, St.eval, constSlot, upd_at, Nat.reduceEqDiff, if_true, if_false, eq_self, true_and, and_true, str_list, str_size, str_app, str_cut, str_get, g25_0]
        refine hM _ _ ?_
        clear hM M
        refine pops_do rfl rfl (by simp only [upd_at, Nat.reduceEqDiff, if_true, if_false, g25_0]) fun M hM => ?_
        simp only [pop, St.eval, constSlot, upd_at, Nat.reduceEqDiff, if_true, if_false, popBin, binK, intK, strK, eqK, Tryd.underlying9, isPtr, eq_self, true_and, and_true, str_list, str_size, str_app, str_cut, str_get, g25_0]
        refine hM _ _ ?_
        clear hM M
        refine pops_to rfl fun M hM => ?_
        simp only [pop, St.eval, constSlot, upd_at, Nat.reduceEqDiff, if_true, if_false, popIf, true_implies, false_implies, Bool.true_eq_false, Bool.false_eq_true, reduceCtorEq, eq_self, true_and, and_true, str_list, str_size, str_app, str_cut, str_get, g25_0]
        refine hM _ _ ?_
        clear hM M
        refine pops_to rfl fun M hM => ?_
        simp only [pop, St.eval, constSlot, upd_at, Nat.reduceEqDiff, if_true, if_false, eq_self, true_and, and_true, str_list, str_size, str_app, str_cut, str_get, g25_0]
        refine hM _ _ ?_
        clear hM M
        refine pops_done (hR14 _ ?_)
        clear hR14 R14
        try simp only [thenK, scopeK]
        refine hN13 _ ?_
        clear hN13 N13
        refine pwp_ret ?_
        simp only [thenK, blockK, scopeK, bodyK]
        clear hN8 N8
        refine ⟨_, rfl, endFun s3 ?_⟩
        try simp only [upd_at, Nat.reduceEqDiff, if_true, if_false, g25_0]
        all_goals
          have hr := relR_1 hall
          clear hm
          simp_all
      · skip
        refine pops_off (b := false) rfl rfl (by simp only [upd_at, Nat.reduceEqDiff, if_true, if_false, g25_0]) (by decide) ?_
        refine pops_off (b := false) rfl rfl (by simp only [upd_at, Nat.reduceEqDiff, if_true, if_false, g25_0]) (by decide) ?_
        refine pops_to rfl fun M hM => ?_
        simp only [pop, St.eval, constSlot, upd_at, Nat.reduceEqDiff, if_true, if_false, popIf, true_implies, false_implies, Bool.true_eq_false, Bool.false_eq_true, reduceCtorEq, eq_self, true_and, and_true, str_list, str_size, str_app, str_cut, str_get, g25_0]
        refine hM _ _ ?_
        clear hM M
        refine pops_to rfl fun M hM => ?_
        simp only [pop, St.eval, constSlot, upd_at, Nat.reduceEqDiff, if_true, if_false, eq_self, true_and, and_true, str_list, str_size, str_app, str_cut, str_get, g25_0]
        refine hM _ _ ?_
        clear hM M
        refine pops_done (hR14 _ ?_)
        clear hR14 R14
        try simp only [thenK, scopeK]
        refine hN13 _ ?_
        clear hN13 N13
        refine pwp_ret ?_
        simp only [thenK, blockK, scopeK, bodyK]
        clear hN8 N8
        refine ⟨_, rfl, endFun s3 ?_⟩
        try simp only [upd_at, Nat.reduceEqDiff, if_true, if_false, g25_0]
        all_goals
          have hr := relR_1 hall
          clear hm
          simp_all
    · skip
      have hall : [d, p].all isPathB = true := by
        cases h9 : [d, p].all isPathB with
        | true => rfl
        | false => rw [h9] at c21; simp at c21
      have hd := isPathB_len (List.all_eq_true.1 hall d (by simp))
      have hp := isPathB_len (List.all_eq_true.1 hall p (by simp))
      have hw := wrap_succ (i := d.length) (by omega)
      refine pwp_skip ?_
      try simp only [thenK, scopeK]
      refine hN8 _ ?_
      clear hN8 N8
      refine pwp_then fun N15 hN15 => ?_
      refine pwp_block ?_
      refine pwp_then fun N16 hN16 => ?_
      refine pwp_reg fun R17 hR17 => ?_
      refine pops_to rfl fun M hM => ?_
      simp only [pop, St.eval, constSlot, upd_at, Nat.reduceEqDiff, if_true, if_false, eq_self, true_and, and_true, str_list, str_size, str_app, str_cut, str_get]
      refine hM _ _ ?_
      clear hM M
      refine pops_to rfl fun M hM => ?_
      simp only [pop, St.eval, constSlot, upd_at, Nat.reduceEqDiff, if_true, if_false, eq_self, true_and, and_true, str_list, str_size, str_app, str_cut, str_get]
      refine hM _ _ ?_
      clear hM M
      refine pops_to rfl fun M hM => ?_
      simp only [pop, St.eval, constSlot, upd_at, Nat.reduceEqDiff, if_true, if_false, popBin, binK, intK, strK, eqK, Tryd.underlying9, isPtr, eq_self, true_and, and_true, str_list, str_size, str_app, str_cut, str_get]
      refine hM _ _ ?_
      clear hM M
      refine pops_to rfl fun M hM => ?_
      simp only [pop, St.eval, constSlot, upd_at, Nat.reduceEqDiff, if_true, if_false, eq_self, true_and, and_true, str_list, str_size, str_app, str_cut, str_get]
      refine hM _ _ ?_
      clear hM M
      refine pops_done (hR17 _ ?_)
      clear hR17 R17
      try simp only [thenK, scopeK]
      refine hN16 _ ?_
      clear hN16 N16
      refine pwp_cond (by simp only [St.eval, upd_at, Nat.reduceEqDiff, if_true, if_false] <;> rfl) (fun c29 => ?_) (fun c29 => ?_)
      · skip
        have he : d = p := by simpa using c29
        refine pwp_then fun N18 hN18 => ?_
        refine pwp_reg fun R19 hR19 => ?_
        refine pops_to rfl fun M hM => ?_
        simp only [pop, St.eval, constSlot, upd_at, Nat.reduceEqDiff, if_true, if_false, eq_self, true_and, and_true, str_list, str_size, str_app, str_cut, str_get]
        refine hM _ _ ?_
        clear hM M
        refine pops_to rfl fun M hM => ?_
        simp only [pop, St.eval, constSlot, upd_at, Nat.reduceEqDiff, if_true, if_false, popBin, binK, intK, strK, eqK, Tryd.underlying9, isPtr, eq_self, true_and, and_true, str_list, str_size, str_app, str_cut, str_get]
        refine hM _ _ ?_
        clear hM M
        refine pops_to rfl fun M hM => ?_
        simp only [pop, St.eval, constSlot, upd_at, Nat.reduceEqDiff, if_true, if_false, eq_self, true_and, and_true, str_list, str_size, str_app, str_cut, str_get]
        refine hM _ _ ?_
        clear hM M
        refine pops_split 35 (by simp only [upd_at, Nat.reduceEqDiff, if_true, if_false] <;> rfl) (fun g35_0 => ?_) (fun g35_0 => ?_)
        · skip
          refine pops_do rfl rfl (by simp only [upd_at, Nat.reduceEqDiff, if_true, if_false, g35_0]) fun M hM => ?_
          simp only [pop, St.eval, constSlot, upd_at, Nat.reduceEqDiff, if_true, if_false, eq_self, true_and, and_true, str_list, str_size, str_app, str_cut, str_get, g35_0]
          refine hM _ _ ?_
          clear hM M
          refine pops_do rfl rfl (by simp only [upd_at, Nat.reduceEqDiff, if_true, if_false, g35_0]) fun M hM => ?_
          simp only [pop, St.eval, constSlot, upd_at, Nat.reduceEqDiff, if_true, if_false, popBin, binK, intK, strK, eqK, Tryd.underlying31, isPtr, eq_self, true_and, and_true, str_list, str_size, str_app, str_cut, str_get, g35_0]
          refine hM _ _ ?_
          clear hM M
          refine pops_to rfl fun M hM => ?_
          simp only [pop, St.eval, constSlot, upd_at, Nat.reduceEqDiff, if_true, if_false, popIf, true_implies, false_implies, Bool.true_eq_false, Bool.false_eq_true, reduceCtorEq, eq_self, true_and, and_true, str_list, str_size, str_app, str_cut, str_get, g35_0]
          refine hM _ _ ?_
          clear hM M
          refine pops_to rfl fun M hM => ?_
          simp only [pop, St.eval, constSlot, upd_at, Nat.reduceEqDiff, if_true, if_false, eq_self, true_and, and_true, str_list, str_size, str_app, str_cut, str_get, g35_0]
          refine hM _ _ ?_
          clear hM M
          refine pops_done (hR19 _ ?_)
          clear hR19 R19
          try simp only [thenK, scopeK]
          refine hN18 _ ?_
          clear hN18 N18
          refine pwp_ret ?_
          simp only [thenK, blockK, scopeK, bodyK]
          clear hN15 N15
          refine ⟨_, rfl, endFun s3 ?_⟩
          try simp only [upd_at, Nat.reduceEqDiff, if_true, if_false, g35_0]
          all_goals
            have hr := relR_3 hall he
            clear hm
            simp_all
        · skip
          refine pops_off (b := false) rfl rfl (by simp only [upd_at, Nat.reduceEqDiff, if_true, if_false, g35_0]) (by decide) ?_
          refine pops_off (b := false) rfl rfl (by simp only [upd_at, Nat.reduceEqDiff, if_true, if_false, g35_0]) (by decide) ?_
          refine pops_to rfl fun M hM => ?_
          simp only [pop, St.eval, constSlot, upd_at, Nat.reduceEqDiff, if_true, if_false, popIf, true_implies, false_implies, Bool.true_eq_false, Bool.false_eq_true, reduceCtorEq, eq_self, true_and, and_true, str_list, str_size, str_app, str_cut, str_get, g35_0]
          refine hM _ _ ?_
          clear hM M
          refine pops_to rfl fun M hM => ?_
          simp only [pop, St.eval, constSlot, upd_at, Nat.reduceEqDiff, if_true, if_false, eq_self, true_and, and_true, str_list, str_size, str_app, str_cut, str_get, g35_0]
          refine hM _ _ ?_
          clear hM M
          refine pops_done (hR19 _ ?_)
          clear hR19 R19
          try simp only [thenK, scopeK]
          refine hN18 _ ?_
          clear hN18 N18
          refine pwp_ret ?_
          simp only [thenK, blockK, scopeK, bodyK]
          clear hN15 N15
          refine ⟨_, rfl, endFun s3 ?_⟩
          try simp only [upd_at, Nat.reduceEqDiff, if_true, if_false, g35_0]
          all_goals
            have hr := relR_3 hall he
            clear hm
            simp_all
      · skip
        have he : ¬ d = p := by simpa using c29
        refine pwp_then fun N20 hN20 => ?_
        refine pwp_reg fun R21 hR21 => ?_
        refine pops_to rfl fun M hM => ?_
        simp only [pop, St.eval, constSlot, upd_at, Nat.reduceEqDiff, if_true, if_false, eq_self, true_and, and_true, str_list, str_size, str_app, str_cut, str_get]
        refine hM _ _ ?_
        clear hM M
        refine pops_to rfl fun M hM => ?_
        simp only [pop, St.eval, constSlot, upd_at, Nat.reduceEqDiff, if_true, if_false, popBin, binK, intK, strK, eqK, Tryd.underlying9, isPtr, eq_self, true_and, and_true, str_list, str_size, str_app, str_cut, str_get]
        refine hM _ _ ?_
        clear hM M
        refine pops_to rfl fun M hM => ?_
        simp only [pop, St.eval, constSlot, upd_at, Nat.reduceEqDiff, if_true, if_false, eq_self, true_and, and_true, str_list, str_size, str_app, str_cut, str_get]
        refine hM _ _ ?_
        clear hM M
        refine pops_done (hR21 _ ?_)
        clear hR21 R21
        try simp only [thenK, scopeK]
        refine hN20 _ ?_
        clear hN20 N20
        refine pwp_cond (by simp only [St.eval, upd_at, Nat.reduceEqDiff, if_true, if_false] <;> rfl) (fun c39 => ?_) (fun c39 => ?_)
        · skip
          have hs : d = [] := by simpa using c39
          refine pwp_then fun N22 hN22 => ?_
          refine pwp_reg fun R23 hR23 => ?_
          refine pops_to rfl fun M hM => ?_
          simp only [pop, St.eval, constSlot, upd_at, Nat.reduceEqDiff, if_true, if_false, eq_self, true_and, and_true, str_list, str_size, str_app, str_cut, str_get]
          refine hM _ _ ?_
          clear hM M
          refine pops_to rfl fun M hM => ?_
          simp only [pop, St.eval, constSlot, upd_at, Nat.reduceEqDiff, if_true, if_false, eq_self, true_and, and_true, str_list, str_size, str_app, str_cut, str_get]
          refine hM _ _ ?_
          clear hM M
          refine pops_to rfl fun M hM => ?_
          simp only [pop, St.eval, constSlot, upd_at, Nat.reduceEqDiff, if_true, if_false, popBin, binK, intK, strK, eqK, Tryd.underlying9, isPtr, eq_self, true_and, and_true, str_list, str_size, str_app, str_cut, str_get]
          refine hM _ _ ?_
          clear hM M
          refine pops_to rfl fun M hM => ?_
          simp only [pop, St.eval, constSlot, upd_at, Nat.reduceEqDiff, if_true, if_false, eq_self, true_and, and_true, str_list, str_size, str_app, str_cut, str_get]
          refine hM _ _ ?_
          clear hM M
          refine pops_split 45 (by simp only [upd_at, Nat.reduceEqDiff, if_true, if_false] <;> rfl) (fun g45_0 => ?_) (fun g45_0 => ?_)
          · skip
            refine pops_do rfl rfl (by simp only [upd_at, Nat.reduceEqDiff, if_true, if_false, g45_0]) fun M hM => ?_
            simp only [pop, St.eval, constSlot, upd_at, Nat.reduceEqDiff, if_true, if_false, eq_self, true_and, and_true, str_list, str_size, str_app, str_cut, str_get, g45_0]
            refine hM _ _ ?_
            clear hM M
            refine pops_do rfl rfl (by simp only [upd_at, Nat.reduceEqDiff, if_true, if_false, g45_0]) fun M hM => ?_
            simp only [pop, St.eval, constSlot, upd_at, Nat.reduceEqDiff, if_true, if_false, popBin, binK, intK, strK, eqK, Tryd.underlying31, isPtr, eq_self, true_and, and_true, str_list, str_size, str_app, str_cut, str_get, g45_0]
            refine hM _ _ ?_
            clear hM M
            refine pops_to rfl fun M hM => ?_
            simp only [pop, St.eval, constSlot, upd_at, Nat.reduceEqDiff, if_true, if_false, popIf, true_implies, false_implies, Bool.true_eq_false, Bool.false_eq_true, reduceCtorEq, eq_self, true_and, and_true, str_list, str_size, str_app, str_cut, str_get, g45_0]
            refine hM _ _ ?_
            clear hM M
            refine pops_to rfl fun M hM => ?_
            simp only [pop, St.eval, constSlot, upd_at, Nat.reduceEqDiff, if_true, if_false, eq_self, true_and, and_true, str_list, str_size, str_app, str_cut, str_get, g45_0]
            refine hM _ _ ?_
            clear hM M
            refine pops_done (hR23 _ ?_)
            clear hR23 R23
            try simp only [thenK, scopeK]
            refine hN22 _ ?_
            clear hN22 N22
            refine pwp_ret ?_
            simp only [thenK, blockK, scopeK, bodyK]
            clear hN15 N15
            refine ⟨_, rfl, endFun s3 ?_⟩
            try simp only [upd_at, Nat.reduceEqDiff, if_true, if_false, g45_0]
            all_goals
              have hr := relR_2 hall hs
              clear hm
              simp_all
          · skip
            refine pops_off (b := false) rfl rfl (by simp only [upd_at, Nat.reduceEqDiff, if_true, if_false, g45_0]) (by decide) ?_
            refine pops_off (b := false) rfl rfl (by simp only [upd_at, Nat.reduceEqDiff, if_true, if_false, g45_0]) (by decide) ?_
            refine pops_to rfl fun M hM => ?_
            simp only [pop, St.eval, constSlot, upd_at, Nat.reduceEqDiff, if_true, if_false, popIf, true_implies, false_implies, Bool.true_eq_false, Bool.false_eq_true, reduceCtorEq, eq_self, true_and, and_true, str_list, str_size, str_app, str_cut, str_get, g45_0]
            refine hM _ _ ?_
            clear hM M
            refine pops_to rfl fun M hM => ?_
            simp only [pop, St.eval, constSlot, upd_at, Nat.reduceEqDiff, if_true, if_false, eq_self, true_and, and_true, str_list, str_size, str_app, str_cut, str_get, g45_0]
            refine hM _ _ ?_
            clear hM M
            refine pops_done (hR23 _ ?_)
            clear hR23 R23
            try simp only [thenK, scopeK]
            refine hN22 _ ?_
            clear hN22 N22
            refine pwp_ret ?_
            simp only [thenK, blockK, scopeK, bodyK]
            clear hN15 N15
            refine ⟨_, rfl, endFun s3 ?_⟩
            try simp only [upd_at, Nat.reduceEqDiff, if_true, if_false, g45_0]
            all_goals
              have hr := relR_2 hall hs
              clear hm
              simp_all
        · skip
          have hs : ¬ d = [] := by simpa using c39
          refine pwp_then fun N24 hN24 => ?_
          refine pwp_reg fun R25 hR25 => ?_
          refine pops_to rfl fun M hM => ?_
          simp only [pop, St.eval, constSlot, upd_at, Nat.reduceEqDiff, if_true, if_false, eq_self, true_and, and_true, str_list, str_size, str_app, str_cut, str_get]
          refine hM _ _ ?_
          clear hM M
          refine pops_to rfl fun M hM => ?_
          simp only [pop, St.eval, constSlot, upd_at, Nat.reduceEqDiff, if_true, if_false, eq_self, true_and, and_true, str_list, str_size, str_app, str_cut, str_get]
          refine hM _ _ ?_
          clear hM M
          refine pops_to rfl fun M hM => ?_
          simp only [pop, St.eval, constSlot, upd_at, Nat.reduceEqDiff, if_true, if_false, popBin, binK, intK, strK, eqK, eq_self, true_and, and_true, str_list, str_size, str_app, str_cut, str_get]
          refine ⟨by simp; omega, hM _ _ ?_⟩
          clear hM M
          refine pops_to rfl fun M hM => ?_
          simp only [pop, St.eval, constSlot, upd_at, Nat.reduceEqDiff, if_true, if_false, popCall, List.toList_toArray, List.map_cons, List.map_nil, svs, List.mapM_cons, List.mapM_nil, Option.bind_eq_bind, Option.bind_some, Option.pure_def, List.append_nil, List.cons_append, List.nil_append, eq_self, true_and, and_true, str_list, str_size, str_app, str_cut, str_get]
          refine PFun.use (hasPrefix_fun W0 p (d ++ [47])) fun h4 s4 => hM _ _ ?_
          replace s4 := Same.trans s3 s4
          clear hM M
          refine pops_to rfl fun M hM => ?_
          simp only [pop, St.eval, constSlot, upd_at, Nat.reduceEqDiff, if_true, if_false, eq_self, true_and, and_true, str_list, str_size, str_app, str_cut, str_get]
          refine hM _ _ ?_
          clear hM M
          refine pops_done (hR25 _ ?_)
          clear hR25 R25
          try simp only [thenK, scopeK]
          refine hN24 _ ?_
          clear hN24 N24
          refine pwp_cond (by simp only [St.eval, upd_at, Nat.reduceEqDiff, if_true, if_false] <;> rfl) (fun c49 => ?_) (fun c49 => ?_)
          · skip
            have hpre := c49
            simp only [Lib.hasPrefix, List.isPrefixOf_iff_prefix] at hpre
            have hlp : d.length + 1 ≤ p.length := by have := hpre.length_le; simp at this; omega
            refine pwp_then fun N26 hN26 => ?_
            refine pwp_reg fun R27 hR27 => ?_
            refine pops_to rfl fun M hM => ?_
            simp only [pop, St.eval, constSlot, upd_at, Nat.reduceEqDiff, if_true, if_false, eq_self, true_and, and_true, str_list, str_size, str_app, str_cut, str_get]
            refine hM _ _ ?_
            clear hM M
            refine pops_to rfl fun M hM => ?_
            simp only [pop, St.eval, constSlot, upd_at, Nat.reduceEqDiff, if_true, if_false, eq_self, true_and, and_true, str_list, str_size, str_app, str_cut, str_get]
            refine hM _ _ ?_
            clear hM M
            refine pops_to rfl fun M hM => ?_
            simp only [pop, St.eval, constSlot, upd_at, Nat.reduceEqDiff, if_true, if_false, eq_self, true_and, and_true, str_list, str_size, str_app, str_cut, str_get]
            refine hM _ _ ?_
            clear hM M
            refine pops_to rfl fun M hM => ?_
            simp only [pop, St.eval, constSlot, upd_at, Nat.reduceEqDiff, if_true, if_false, popCall, List.toList_toArray, List.map_cons, List.map_nil, popBuiltin, popLen, lenOfSlot, List.length_map, Tryd.underlying9, eq_self, true_and, and_true, str_list, str_size, str_app, str_cut, str_get]
            refine hM _ _ ?_
            clear hM M
            refine pops_to rfl fun M hM => ?_
            simp only [pop, St.eval, constSlot, upd_at, Nat.reduceEqDiff, if_true, if_false, popBin, binK, intK, strK, eqK, eq_self, true_and, and_true, str_list, str_size, str_app, str_cut, str_get, hw]
            refine hM _ _ ?_
            clear hM M
            refine pops_to rfl fun M hM => ?_
            simp only [pop, St.eval, constSlot, upd_at, Nat.reduceEqDiff, if_true, if_false, popSlice, boundOf, Option.map_none, Option.map_some, Tryd.underlying9, eq_self, true_and, and_true, str_list, str_size, str_app, str_cut, str_get]
            refine ⟨Int.natCast_nonneg _, by omega, by omega, hM _ _ ?_⟩
            clear hM M
            refine pops_to rfl fun M hM => ?_
            simp only [pop, St.eval, constSlot, upd_at, Nat.reduceEqDiff, if_true, if_false, popBin, binK, intK, strK, eqK, Tryd.underlying9, isPtr, eq_self, true_and, and_true, str_list, str_size, str_app, str_cut, str_get]
            refine hM _ _ ?_
            clear hM M
            refine pops_to rfl fun M hM => ?_
            simp only [pop, St.eval, constSlot, upd_at, Nat.reduceEqDiff, if_true, if_false, eq_self, true_and, and_true, str_list, str_size, str_app, str_cut, str_get]
            refine hM _ _ ?_
            clear hM M
            refine pops_split 61 (by simp only [upd_at, Nat.reduceEqDiff, if_true, if_false] <;> rfl) (fun g61_0 => ?_) (fun g61_0 => ?_)
            · skip
              refine pops_do rfl rfl (by simp only [upd_at, Nat.reduceEqDiff, if_true, if_false, g61_0]) fun M hM => ?_
              simp only [pop, St.eval, constSlot, upd_at, Nat.reduceEqDiff, if_true, if_false, eq_self, true_and, and_true, str_list, str_size, str_app, str_cut, str_get, g61_0]
              refine hM _ _ ?_
              clear hM M
              refine pops_do rfl rfl (by simp only [upd_at, Nat.reduceEqDiff, if_true, if_false, g61_0]) fun M hM => ?_
              simp only [pop, St.eval, constSlot, upd_at, Nat.reduceEqDiff, if_true, if_false, popBin, binK, intK, strK, eqK, Tryd.underlying31, isPtr, eq_self, true_and, and_true, str_list, str_size, str_app, str_cut, str_get, g61_0]
              refine hM _ _ ?_
              clear hM M
              refine pops_to rfl fun M hM => ?_
              simp only [pop, St.eval, constSlot, upd_at, Nat.reduceEqDiff, if_true, if_false, popIf, true_implies, false_implies, Bool.true_eq_false, Bool.false_eq_true, reduceCtorEq, eq_self, true_and, and_true, str_list, str_size, str_app, str_cut, str_get, g61_0]
              refine hM _ _ ?_
              clear hM M
              refine pops_to rfl fun M hM => ?_
              simp only [pop, St.eval, constSlot, upd_at, Nat.reduceEqDiff, if_true, if_false, eq_self, true_and, and_true, str_list, str_size, str_app, str_cut, str_get, g61_0]
              refine hM _ _ ?_
              clear hM M
              refine pops_done (hR27 _ ?_)
              clear hR27 R27
              try simp only [thenK, scopeK]
              refine hN26 _ ?_
              clear hN26 N26
              refine pwp_ret ?_
              simp only [thenK, blockK, scopeK, bodyK]
              clear hN15 N15
              refine ⟨_, rfl, endFun s4 ?_⟩
              try simp only [upd_at, Nat.reduceEqDiff, if_true, if_false, g61_0]
              all_goals
                have hr := relR_4 hall hs he c49
                clear hm
                simp_all
            · skip
              refine pops_off (b := false) rfl rfl (by simp only [upd_at, Nat.reduceEqDiff, if_true, if_false, g61_0]) (by decide) ?_
              refine pops_off (b := false) rfl rfl (by simp only [upd_at, Nat.reduceEqDiff, if_true, if_false, g61_0]) (by decide) ?_
              refine pops_to rfl fun M hM => ?_
              simp only [pop, St.eval, constSlot, upd_at, Nat.reduceEqDiff, if_true, if_false, popIf, true_implies, false_implies, Bool.true_eq_false, Bool.false_eq_true, reduceCtorEq, eq_self, true_and, and_true, str_list, str_size, str_app, str_cut, str_get, g61_0]
              refine hM _ _ ?_
              clear hM M
              refine pops_to rfl fun M hM => ?_
              simp only [pop, St.eval, constSlot, upd_at, Nat.reduceEqDiff, if_true, if_false, eq_self, true_and, and_true, str_list, str_size, str_app, str_cut, str_get, g61_0]
              refine hM _ _ ?_
              clear hM M
              refine pops_done (hR27 _ ?_)
              clear hR27 R27
              try simp only [thenK, scopeK]
              refine hN26 _ ?_
              clear hN26 N26
              refine pwp_ret ?_
              simp only [thenK, blockK, scopeK, bodyK]
              clear hN15 N15
              refine ⟨_, rfl, endFun s4 ?_⟩
              try simp only [upd_at, Nat.reduceEqDiff, if_true, if_false, g61_0]
              all_goals
                have hr := relR_4 hall hs he c49
                clear hm
                simp_all
          · skip
            refine pwp_skip ?_
            try simp only [blockK, thenK, scopeK]
            try simp only [thenK, scopeK]
            refine hN15 _ ?_
            clear hN15 N15
            refine pwp_then fun N28 hN28 => ?_
            refine pwp_reg fun R29 hR29 => ?_
            refine pops_to rfl fun M hM => ?_
            simp only [pop, St.eval, constSlot, upd_at, Nat.reduceEqDiff, if_true, if_false, eq_self, true_and, and_true, str_list, str_size, str_app, str_cut, str_get]
            refine hM _ _ ?_
            clear hM M
            refine pops_to rfl fun M hM => ?_
            simp only [pop, St.eval, constSlot, upd_at, Nat.reduceEqDiff, if_true, if_false, popBin, binK, intK, strK, eqK, Tryd.underlying9, isPtr, eq_self, true_and, and_true, str_list, str_size, str_app, str_cut, str_get]
            refine hM _ _ ?_
            clear hM M
            refine pops_to rfl fun M hM => ?_
            simp only [pop, St.eval, constSlot, upd_at, Nat.reduceEqDiff, if_true, if_false, eq_self, true_and, and_true, str_list, str_size, str_app, str_cut, str_get]
            refine hM _ _ ?_
            clear hM M
            refine pops_split 67 (by simp only [upd_at, Nat.reduceEqDiff, if_true, if_false] <;> rfl) (fun g67_0 => ?_) (fun g67_0 => ?_)
            · skip
              refine pops_do rfl rfl (by simp only [upd_at, Nat.reduceEqDiff, if_true, if_false, g67_0]) fun M hM => ?_
              simp only [pop, St.eval, constSlot, upd_at, Nat.reduceEqDiff, if_true, if_false, eq_self, true_and, and_true, str_list, str_size, str_app, str_cut, str_get, g67_0]
              refine hM _ _ ?_
              clear hM M
              refine pops_do rfl rfl (by simp only [upd_at, Nat.reduceEqDiff, if_true, if_false, g67_0]) fun M hM => ?_
              simp only [pop, St.eval, constSlot, upd_at, Nat.reduceEqDiff, if_true, if_false, popBin, binK, intK, strK, eqK, Tryd.underlying31, isPtr, eq_self, true_and, and_true, str_list, str_size, str_app, str_cut, str_get, g67_0]
              refine hM _ _ ?_
              clear hM M
              refine pops_to rfl fun M hM => ?_
              simp only [pop, St.eval, constSlot, upd_at, Nat.reduceEqDiff, if_true, if_false, popIf, true_implies, false_implies, Bool.true_eq_false, Bool.false_eq_true, reduceCtorEq, eq_self, true_and, and_true, str_list, str_size, str_app, str_cut, str_get, g67_0]
              refine hM _ _ ?_
              clear hM M
              refine pops_to rfl fun M hM => ?_
              simp only [pop, St.eval, constSlot, upd_at, Nat.reduceEqDiff, if_true, if_false, eq_self, true_and, and_true, str_list, str_size, str_app, str_cut, str_get, g67_0]
              refine hM _ _ ?_
              clear hM M
              refine pops_done (hR29 _ ?_)
              clear hR29 R29
              try simp only [thenK, scopeK]
              refine hN28 _ ?_
              clear hN28 N28
              refine pwp_ret ?_
              simp only [thenK, blockK, scopeK, bodyK]
              refine ⟨_, rfl, endFun s4 ?_⟩
              try simp only [upd_at, Nat.reduceEqDiff, if_true, if_false, g67_0]
              all_goals
                have hr := relR_5 hall hs he c49
                clear hm
                simp_all
            · skip
              refine pops_off (b := false) rfl rfl (by simp only [upd_at, Nat.reduceEqDiff, if_true, if_false, g67_0]) (by decide) ?_
              refine pops_off (b := false) rfl rfl (by simp only [upd_at, Nat.reduceEqDiff, if_true, if_false, g67_0]) (by decide) ?_
              refine pops_to rfl fun M hM => ?_
              simp only [pop, St.eval, constSlot, upd_at, Nat.reduceEqDiff, if_true, if_false, popIf, true_implies, false_implies, Bool.true_eq_false, Bool.false_eq_true, reduceCtorEq, eq_self, true_and, and_true, str_list, str_size, str_app, str_cut, str_get, g67_0]
              refine hM _ _ ?_
              clear hM M
              refine pops_to rfl fun M hM => ?_
              simp only [pop, St.eval, constSlot, upd_at, Nat.reduceEqDiff, if_true, if_false, eq_self, true_and, and_true, str_list, str_size, str_app, str_cut, str_get, g67_0]
              refine hM _ _ ?_
              clear hM M
              refine pops_done (hR29 _ ?_)
              clear hR29 R29
              try simp only [thenK, scopeK]
              refine hN28 _ ?_
              clear hN28 N28
              refine pwp_ret ?_
              simp only [thenK, blockK, scopeK, bodyK]
              refine ⟨_, rfl, endFun s4 ?_⟩
              try simp only [upd_at, Nat.reduceEqDiff, if_true, if_false, g67_0]
              all_goals
                have hr := relR_5 hall hs he c49
                clear hm
                simp_all
end Go.Pw
