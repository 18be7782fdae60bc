/- Own work: part of the proof of the row YtlghclplgbijjaaDoorRowFilterChecksUpto; no condition of its own. -/
import Derived.Test.YtlghclplgbijjaaDoorLib
namespace Go.Pw
open Go Go.RowKit Go.Proofs
set_option maxRecDepth 100000
set_option linter.unusedSimpArgs false
set_option linter.unusedVariables false
theorem nm19 : (Tryd.f19.name == "runtime.NumGoroutine") = false := by kernel_rfl
theorem check_fun (W0 : World) (hm : HasMax W0) (isNameR : List UInt8 → Bool) (s : List UInt8) (hname : ∀ x ∈ spl 47 s, PFun Tryd.prog W0 38 [.one (pstr x)] (.sv (.one (pbool (isNameR x))))) :
  PFun Tryd.prog W0 19 [.one (pstr s)] (.sv (.one (pint (checkR isNameR s)))) := by
 intro h
 refine pcalls1 (n := 21) Tryd.func19 rfl nm19 rfl fun hb => ?_
 refine pwp_then fun N1 hN1 => ?_
 refine pwp_reg fun R2 hR2 => ?_
 refine pops_to rfl fun M hM => ?_
 simp only [pop, St.eval, constSlot]
 refine hM _ _ ?_
 clear hM M
 refine pops_done (hR2 _ ?_)
 clear hR2 R2
 try simp only [thenK]
 refine hN1 _ ?_
 clear hN1 N1
 refine pwp_then fun N3 hN3 => ?_
 refine pwp_then fun N4 hN4 => ?_
 refine pwp_reg fun R5 hR5 => ?_
 refine pops_to rfl fun M hM => ?_
 simp only [pop, St.eval, upd_at, Nat.reduceEqDiff, if_true, if_false, eq_self]
 refine hM _ _ ?_
 clear hM M
 refine pops_to rfl fun M hM => ?_
 simp only [pop, St.eval, constSlot, upd_at, Nat.reduceEqDiff, if_true, if_false, popBin, binK, strK, eq_self, str_list]
 refine hM _ _ ?_
 clear hM M
 refine pops_done (hR5 _ ?_)
 clear hR5 R5
 try simp only [thenK]
 refine hN4 _ ?_
 clear hN4 N4
 refine pwp_cond (by simp only [St.eval, upd_at, Nat.reduceEqDiff, if_true, if_false] <;> rfl) (fun c6 => ?_) (fun c6 => ?_)
 ·skip
  refine pwp_then fun N6 hN6 => ?_
  refine pwp_reg fun R7 hR7 => ?_
  refine pops_to rfl fun M hM => ?_
  simp only [pop, St.eval, constSlot]
  refine hM _ _ ?_
  clear hM M
  refine pops_done (hR7 _ ?_)
  clear hR7 R7
  try simp only [thenK]
  refine hN6 _ ?_
  clear hN6 N6
  refine pwp_ret ?_
  simp only [thenK, bodyK]
  clear hN3 N3
  refine ⟨_, rfl, endFun (Same.refl _) ?_⟩
  try simp only [upd_at, Nat.reduceEqDiff, if_true, if_false]
  all_goals
   simp only [beq_iff_eq] at c6
   simp [checkR, c6]
 ·skip
  refine pwp_skip ?_
  try simp only [thenK]
  refine hN3 _ ?_
  clear hN3 N3
  refine pwp_then fun N8 hN8 => ?_
  refine pwp_then fun N9 hN9 => ?_
  refine pwp_reg fun R10 hR10 => ?_
  refine pops_to rfl fun M hM => ?_
  simp only [pop, St.eval, upd_at, Nat.reduceEqDiff, if_true, if_false, eq_self]
  refine hM _ _ ?_
  clear hM M
  refine pops_to rfl fun M hM => ?_
  simp only [pop, St.eval, upd_at, Nat.reduceEqDiff, if_true, if_false, popCall, List.map_cons, List.map_nil, popBuiltin, popLen, Tryd.underlying9, eq_self, str_size]
  refine hM _ _ ?_
  clear hM M
  refine pops_to rfl fun M hM => ?_
  simp only [pop, St.eval, constSlot, upd_at, Nat.reduceEqDiff, if_true, if_false, popBin, binK, intK, eq_self, true_and]
  refine hM _ _ ?_
  clear hM M
  refine pops_done (hR10 _ ?_)
  clear hR10 R10
  try simp only [thenK]
  refine hN9 _ ?_
  clear hN9 N9
  refine pwp_cond (by simp only [St.eval, upd_at, Nat.reduceEqDiff, if_true, if_false] <;> rfl) (fun c9 => ?_) (fun c9 => ?_)
  ·skip
   simp only [decide_eq_true_eq] at c9
   refine pwp_then fun N11 hN11 => ?_
   refine pwp_reg fun R12 hR12 => ?_
   refine pops_to rfl fun M hM => ?_
   simp only [pop, St.eval, constSlot]
   refine hM _ _ ?_
   clear hM M
   refine pops_done (hR12 _ ?_)
   clear hR12 R12
   try simp only [thenK]
   refine hN11 _ ?_
   clear hN11 N11
   refine pwp_ret ?_
   simp only [thenK, bodyK]
   clear hN8 N8
   refine ⟨_, rfl, endFun (Same.refl _) ?_⟩
   try simp only [upd_at, Nat.reduceEqDiff, if_true, if_false]
   all_goals
    have hs : s ≠ [] := by simpa using c6
    rw [checkR, if_neg hs, if_pos (by omega)]
  ·skip
   simp only [decide_eq_false_iff_not] at c9
   refine pwp_skip ?_
   try simp only [thenK]
   refine hN8 _ ?_
   clear hN8 N8
   refine pwp_then fun N13 hN13 => ?_
   refine pwp_then fun N14 hN14 => ?_
   refine pwp_reg fun R15 hR15 => ?_
   refine pops_to rfl fun M hM => ?_
   simp only [pop, St.eval, upd_at, Nat.reduceEqDiff, if_true, if_false, eq_self]
   refine hM _ _ ?_
   clear hM M
   refine pops_to rfl fun M hM => ?_
   simp only [pop, St.eval, constSlot, upd_at, Nat.reduceEqDiff, if_true, if_false, popCall, List.map_nil, svs, List.mapM_cons, List.mapM_nil, Option.bind_eq_bind, Option.bind_some, Option.pure_def, List.append_nil, eq_self]
   refine PFun.use (split_fun W0 hm s 47 (by omega)) fun h1 s1 => hM _ _ ?_
   replace s1 := Same.trans (Same.refl _) s1
   clear hM M
   refine pops_to rfl fun M hM => ?_
   simp only [pop, St.eval, upd_at, Nat.reduceEqDiff, if_true, if_false, popCall, List.map_cons, List.map_nil, popBuiltin, popLen, lenOfSlot, List.length_map, Tryd.underlying32, eq_self]
   refine hM _ _ ?_
   clear hM M
   refine pops_to rfl fun M hM => ?_
   simp only [pop, St.eval, constSlot]
   refine hM _ _ ?_
   clear hM M
   refine pops_done (hR15 _ ?_)
   clear hR15 R15
   try simp only [thenK]
   refine hN14 _ ?_
   clear hN14 N14
   refine pwp_block ?_
   refine pwp_loop (fun k σ => ∃ (i : Nat), (k = (spl 47 s).length - i) ∧ (i ≤ (spl 47 s).length) ∧ (∀ y ∈ (spl 47 s).take i, isNameR y = true) ∧ (Same h σ.hp) ∧ (σ.env 11 = .sv (.one (.ro true 1 (pstrs (spl 47 s))))) ∧ (σ.env 12 = .sv (.one (pint ((spl 47 s).length : Nat)))) ∧ (σ.env 13 = .sv (.one (pint (i : Nat))))) _ ⟨_, .refl _ _, 0, rfl, ?_⟩ ?_
   · exact ⟨Nat.zero_le _, by simp, s1, by simp only [upd_at, Nat.reduceEqDiff, if_true, if_false], by simp only [upd_at, Nat.reduceEqDiff, if_true, if_false], by simp only [upd_at, Nat.reduceEqDiff, if_true, if_false]; rfl⟩
   ·rintro k ⟨e, hp0⟩ ⟨i, hk0, hx0_0, hx0_1, sl0, e0_11, e0_12, e0_13⟩
    simp only at sl0 e0_11 e0_12 e0_13
    have hlen : (spl 47 s).length ≤ 1025 := by rw [spl_length]; have := List.count_le_length (a := (47 : UInt8)) (l := s); omega
    refine pwp_then fun N16 hN16 => ?_
    refine pwp_reg fun R17 hR17 => ?_
    refine pops_to rfl fun M hM => ?_
    simp only [pop, St.eval, popBin, binK, intK, eq_self, true_and, e0_12, e0_13]
    refine hM _ _ ?_
    clear hM M
    refine pops_done (hR17 _ ?_)
    clear hR17 R17
    try simp only [thenK]
    refine hN16 _ ?_
    clear hN16 N16
    refine pwp_then fun N18 hN18 => ?_
    refine pwp_cond (by simp only [St.eval, upd_at, if_true] <;> rfl) (fun c14 => ?_) (fun c14 => ?_)
    ·skip
     have hi : i < (spl 47 s).length := by have := of_decide_eq_true c14; omega
     obtain ⟨x, hx⟩ : ∃ x, (spl 47 s)[i]? = some x := ⟨_, List.getElem?_eq_getElem hi⟩
     have hget : (pstrs (spl 47 s))[i]? = some [pstr x] := by simp only [List.getElem?_map, hx, Option.map_some]
     refine pwp_skip ?_
     try simp only [thenK]
     refine hN18 _ ?_
     clear hN18 N18
     refine pwp_then fun N19 hN19 => ?_
     refine pwp_block ?_
     refine pwp_then fun N20 hN20 => ?_
     refine pwp_reg fun R21 hR21 => ?_
     refine pops_to rfl fun M hM => ?_
     simp only [pop, St.eval, upd_at, Nat.reduceEqDiff, if_false, popIndexAddr, Tryd.underlying32, sz9, eq_self, true_and, e0_11, e0_13, hget, Int.toNat_natCast]
     refine ⟨Int.natCast_nonneg _, hM _ _ ?_⟩
     clear hM M
     refine pops_to rfl fun M hM => ?_
     simp only [pop, St.eval, upd_at, Nat.reduceEqDiff, if_true, if_false, popLoad, loadK, isAggD, Bool.false_eq_true, Tryd.underlying9, sz9, eq_self]
     refine hM _ _ ?_
     clear hM M
     refine pops_to rfl fun M hM => ?_
     simp only [pop, St.eval, upd_at, Nat.reduceEqDiff, if_true, if_false, eq_self]
     refine hM _ _ ?_
     clear hM M
     refine pops_done (hR21 _ ?_)
     clear hR21 R21
     try simp only [thenK]
     refine hN20 _ ?_
     clear hN20 N20
     refine pwp_then fun N22 hN22 => ?_
     refine pwp_reg fun R23 hR23 => ?_
     refine pops_to rfl fun M hM => ?_
     simp only [pop, St.eval, upd_at, Nat.reduceEqDiff, if_true, if_false, eq_self]
     refine hM _ _ ?_
     clear hM M
     refine pops_to rfl fun M hM => ?_
     simp only [pop, St.eval, constSlot, upd_at, Nat.reduceEqDiff, if_true, if_false, popCall, List.map_nil, svs, List.mapM_cons, List.mapM_nil, Option.bind_eq_bind, Option.bind_some, Option.pure_def, List.append_nil, eq_self]
     refine PFun.use (hname x (List.mem_of_getElem? hx)) fun h2 s2 => hM _ _ ?_
     replace s2 := Same.trans sl0 s2
     clear hM M
     refine pops_to rfl fun M hM => ?_
     simp only [pop, St.eval, upd_at, Nat.reduceEqDiff, if_true, if_false, unK, eq_self]
     refine hM _ _ ?_
     clear hM M
     refine pops_done (hR23 _ ?_)
     clear hR23 R23
     try simp only [thenK]
     refine hN22 _ ?_
     clear hN22 N22
     refine pwp_cond (by simp only [St.eval, upd_at, Nat.reduceEqDiff, if_true, if_false] <;> rfl) (fun c19 => ?_) (fun c19 => ?_)
     ·skip
      refine pwp_then fun N24 hN24 => ?_
      refine pwp_reg fun R25 hR25 => ?_
      refine pops_to rfl fun M hM => ?_
      simp only [pop, St.eval, constSlot]
      refine hM _ _ ?_
      clear hM M
      refine pops_done (hR25 _ ?_)
      clear hR25 R25
      try simp only [thenK]
      refine hN24 _ ?_
      clear hN24 N24
      refine pwp_ret ?_
      simp only [thenK, blockK, bodyK]
      clear hN19 N19 hN13 N13
      refine ⟨_, rfl, endFun s2 ?_⟩
      try simp only [upd_at, Nat.reduceEqDiff, if_true, if_false]
      all_goals
       have hs : s ≠ [] := by simpa using c6
       have ha : ¬ ((spl 47 s).all isNameR = true) := by
         simp only [List.all_eq_true]
         intro hall
         have := hall x (List.mem_of_getElem? hx)
         simp [this] at c19
       rw [checkR, if_neg hs, if_neg (by omega), if_neg ha]
     ·skip
      refine pwp_skip ?_
      try simp only [blockK, thenK]
      try simp only [thenK, scopeK]
      refine hN19 _ ?_
      clear hN19 N19
      refine pwp_reg fun R26 hR26 => ?_
      refine pops_to rfl fun M hM => ?_
      simp only [pop, St.eval, constSlot, upd_at, Nat.reduceEqDiff, if_false, popBin, binK, intK, eq_self, true_and, e0_13]
      refine hM _ _ ?_
      clear hM M
      refine pops_to rfl fun M hM => ?_
      simp only [pop, St.eval, upd_at, Nat.reduceEqDiff, if_true, if_false, eq_self]
      refine hM _ _ ?_
      clear hM M
      refine pops_done (hR26 _ ?_)
      clear hR26 R26
      try simp only [thenK]
      exact ⟨_, by omega, _, .refl _ _, i + 1, rfl, by omega, by rw [List.take_add_one, hx]; simp only [Option.toList_some, List.mem_append, List.mem_singleton]; rintro y (hy | rfl); exact hx0_1 y hy; simpa using c19, s2, by simp only [upd_at, Nat.reduceEqDiff, if_false, e0_11], by simp only [upd_at, Nat.reduceEqDiff, if_false, e0_12], by simp only [upd_at, Nat.reduceEqDiff, if_true, if_false, e0_13]; rw [wrap_succ (by omega)]⟩
    ·skip
     have hi := of_decide_eq_false c14
     refine pwp_exit ?_
     try simp only [thenK, blockK, if_true]
     clear hN18 N18
     try simp only [blockK, scopeK, if_true, Nat.reduceEqDiff, if_false, thenK]
     try simp only [thenK, scopeK]
     refine hN13 _ ?_
     clear hN13 N13
     refine pwp_then fun N27 hN27 => ?_
     refine pwp_reg fun R28 hR28 => ?_
     refine pops_to rfl fun M hM => ?_
     simp only [pop, St.eval, constSlot]
     refine hM _ _ ?_
     clear hM M
     refine pops_done (hR28 _ ?_)
     clear hR28 R28
     try simp only [thenK]
     refine hN27 _ ?_
     clear hN27 N27
     refine pwp_ret ?_
     simp only [bodyK]
     refine ⟨_, rfl, endFun sl0 ?_⟩
     try simp only [upd_at, Nat.reduceEqDiff, if_true, if_false]
     all_goals
      have hs : s ≠ [] := by simpa using c6
      have ha : (spl 47 s).all isNameR = true := by
        simp only [List.all_eq_true]
        intro y hy
        exact hx0_1 y (by rw [List.take_of_length_le (by omega)]; exact hy)
      rw [checkR, if_neg hs, if_neg (by omega), if_pos ha]
theorem nm38 : (Tryd.f38.name == "runtime.NumGoroutine") = false := by kernel_rfl
theorem isName_nil (W0 : World) :
  PFun Tryd.prog W0 38 [.one (pstr [])] (.sv (.one (pbool false))) := by
 intro h
 refine pcalls1 (n := 23) Tryd.func38 rfl nm38 rfl fun hb => ?_
 refine pwp_then fun N1 hN1 => ?_
 refine pwp_reg fun R2 hR2 => ?_
 refine pops_to rfl fun M hM => ?_
 simp only [pop, St.eval, constSlot]
 refine hM _ _ ?_
 clear hM M
 refine pops_done (hR2 _ ?_)
 clear hR2 R2
 try simp only [thenK]
 refine hN1 _ ?_
 clear hN1 N1
 refine pwp_then fun N3 hN3 => ?_
 refine pwp_reg fun R4 hR4 => ?_
 refine pops_to rfl fun M hM => ?_
 simp only [pop, St.eval, upd_at, Nat.reduceEqDiff, if_true, if_false, eq_self]
 refine hM _ _ ?_
 clear hM M
 refine pops_to rfl fun M hM => ?_
 simp only [pop, St.eval, constSlot, upd_at, Nat.reduceEqDiff, if_true, if_false, popBin, binK, strK, eq_self, str_list, beq_self_eq_true, Bool.not_true]
 refine hM _ _ ?_
 clear hM M
 refine pops_to rfl fun M hM => ?_
 simp only [pop, St.eval, upd_at, Nat.reduceEqDiff, if_true, if_false, eq_self]
 refine hM _ _ ?_
 clear hM M
 refine pops_split 5 (by simp only [upd_at, Nat.reduceEqDiff, if_true, if_false] <;> rfl) (fun g5_0 => ?_) (fun g5_0 => ?_)
 ·skip
  simp at g5_0
 ·skip
  refine pops_off (b := false) rfl rfl (by simp only [upd_at, Nat.reduceEqDiff, if_true, if_false]) (by decide) ?_
  refine pops_off (b := false) rfl rfl (by simp only [upd_at, Nat.reduceEqDiff, if_true, if_false]) (by decide) ?_
  refine pops_off (b := false) rfl rfl (by simp only [upd_at, Nat.reduceEqDiff, if_true, if_false]) (by decide) ?_
  refine pops_to rfl fun M hM => ?_
  simp only [pop, St.eval, constSlot, upd_at, Nat.reduceEqDiff, if_true, if_false, true_implies, false_implies, Bool.false_eq_true, reduceCtorEq, eq_self, true_and]
  refine hM _ _ ?_
  clear hM M
  refine pops_to rfl fun M hM => ?_
  simp only [pop, St.eval, upd_at, Nat.reduceEqDiff, if_true, if_false, eq_self]
  refine hM _ _ ?_
  clear hM M
  refine pops_off (b := false) rfl rfl (by simp only [upd_at, Nat.reduceEqDiff, if_true, if_false]) (by decide) ?_
  refine pops_off (b := false) rfl rfl (by simp only [upd_at, Nat.reduceEqDiff, if_true, if_false]) (by decide) ?_
  refine pops_to rfl fun M hM => ?_
  simp only [pop, St.eval, constSlot, upd_at, Nat.reduceEqDiff, if_true, if_false, true_implies, false_implies, Bool.false_eq_true, reduceCtorEq, eq_self, true_and]
  refine hM _ _ ?_
  clear hM M
  refine pops_to rfl fun M hM => ?_
  simp only [pop, St.eval, upd_at, Nat.reduceEqDiff, if_true, if_false, eq_self]
  refine hM _ _ ?_
  clear hM M
  refine pops_off (b := false) rfl rfl (by simp only [upd_at, Nat.reduceEqDiff, if_true, if_false]) (by decide) ?_
  refine pops_off (b := false) rfl rfl (by simp only [upd_at, Nat.reduceEqDiff, if_true, if_false]) (by decide) ?_
  refine pops_to rfl fun M hM => ?_
  simp only [pop, St.eval, constSlot, upd_at, Nat.reduceEqDiff, if_true, if_false, true_implies, false_implies, Bool.false_eq_true, reduceCtorEq, eq_self, true_and]
  refine hM _ _ ?_
  clear hM M
  refine pops_to rfl fun M hM => ?_
  simp only [pop, St.eval, upd_at, Nat.reduceEqDiff, if_true, if_false, eq_self]
  refine hM _ _ ?_
  clear hM M
  refine pops_off (b := false) rfl rfl (by simp only [upd_at, Nat.reduceEqDiff, if_true, if_false]) (by decide) ?_
  refine pops_off (b := false) rfl rfl (by simp only [upd_at, Nat.reduceEqDiff, if_true, if_false]) (by decide) ?_
  refine pops_off (b := false) rfl rfl (by simp only [upd_at, Nat.reduceEqDiff, if_true, if_false]) (by decide) ?_
  refine pops_to rfl fun M hM => ?_
  simp only [pop, St.eval, constSlot, upd_at, Nat.reduceEqDiff, if_true, if_false, true_implies, false_implies, Bool.false_eq_true, reduceCtorEq, eq_self, true_and]
  refine hM _ _ ?_
  clear hM M
  refine pops_to rfl fun M hM => ?_
  simp only [pop, St.eval, upd_at, Nat.reduceEqDiff, if_true, if_false, eq_self]
  refine hM _ _ ?_
  clear hM M
  refine pops_done (hR4 _ ?_)
  clear hR4 R4
  try simp only [thenK]
  refine hN3 _ ?_
  clear hN3 N3
  refine pwp_ret ?_
  simp only [bodyK]
  refine ⟨_, rfl, endFun (Same.refl _) ?_⟩
  try simp only [upd_at, Nat.reduceEqDiff, if_true, if_false]
  all_goals
   rfl
theorem nm7 : (Tryd.f7.name == "runtime.NumGoroutine") = false := by kernel_rfl
theorem landed_fun (W0 : World) (hm : HasMax W0) :
  PFun Tryd.prog W0 7 [] (.sv (.one (pbool true))) := by
 intro h
 refine pcalls0 (n := 3) Tryd.func7 rfl nm7 rfl fun hb => ?_
 refine pwp_then fun N1 hN1 => ?_
 refine pwp_reg fun R2 hR2 => ?_
 refine pops_to rfl fun M hM => ?_
 simp only [pop, St.eval, constSlot]
 refine hM _ _ ?_
 clear hM M
 refine pops_done (hR2 _ ?_)
 clear hR2 R2
 try simp only [thenK]
 refine hN1 _ ?_
 clear hN1 N1
 refine pwp_then fun N3 hN3 => ?_
 refine pwp_reg fun R4 hR4 => ?_
 refine pops_to rfl fun M hM => ?_
 simp only [pop, St.eval, constSlot, upd_at, popCall, List.map_nil, svs, List.mapM_cons, List.mapM_nil, Option.bind_eq_bind, Option.bind_some, Option.pure_def, List.append_nil]
 refine PFun.use (check_fun W0 hm (fun _ => false) [47] (fun x hx => by
       have e : x = [] := by simpa [spl] using hx
       subst e
       exact isName_nil W0)) fun h1 s1 => hM _ _ ?_
 replace s1 := Same.trans (Same.refl _) s1
 clear hM M
 refine pops_to rfl fun M hM => ?_
 simp only [pop, St.eval, constSlot, upd_at, Nat.reduceEqDiff, if_true, if_false, popBin, binK, intK, eq_self, true_and]
 refine hM _ _ ?_
 clear hM M
 refine pops_to rfl fun M hM => ?_
 simp only [pop, St.eval, upd_at, Nat.reduceEqDiff, if_true, if_false, eq_self]
 refine hM _ _ ?_
 clear hM M
 refine pops_done (hR4 _ ?_)
 clear hR4 R4
 try simp only [thenK]
 refine hN3 _ ?_
 clear hN3 N3
 refine pwp_ret ?_
 simp only [bodyK]
 refine ⟨_, rfl, endFun s1 ?_⟩
 try simp only [upd_at, Nat.reduceEqDiff, if_true, if_false]
 all_goals
  simp [checkR, spl]
end Go.Pw
