import Derived.Test.YtokmndkkgbamfaaGreatDoorMountA
namespace Go.Pw
open Go Go.RowKit Go.Proofs
set_option maxRecDepth 100000
set_option linter.unusedSimpArgs false
set_option linter.unusedVariables false
theorem sz36 : szOf Tryz.prog 36 = some 1 := by kernel_rfl

theorem mnt_fin {x : Feat} {o : MntO} (h : ((mountE o == 0) && (andI x.has 80 == 0)) = false) : mntE x o = mountE o := by
  unfold mntE
  by_cases h1 : mountE o = 0
  · rw [if_neg (by rw [h1]; simp), if_neg ?_, h1]
    simpa [h1] using h
  · rw [if_pos h1]
theorem mnt_12 {x : Feat} {o : MntO} (h : ((mountE o == 0) && (andI x.has 80 == 0)) = true) : mntE x o = 12 := by
  simp only [Bool.and_eq_true, beq_iff_eq] at h
  rw [mntE, if_neg (by rw [h.1]; simp), if_pos (by simpa using h.2)]
theorem nm3 : (Tryz.f3.name == "runtime.NumGoroutine") = false := by kernel_rfl
set_option maxHeartbeats 4000000 in
theorem mount_law (W0 : World) (hm : HasMax W0) (x : Feat) (hf : x.forbid.length ≤ 9223372036854775807) (hz : inI64 x.sums) (o : MntO) (s c : Bool) :
  PFun Tryz.prog W0 3 [.agg (featPV x), .agg [pint o.block, pint o.ahead, pint o.cache, pint o.expiry, pint o.delay, pint o.handles, pbool o.only], .one (pbool s), .one (pbool c)] (.sv (.one (pbool true))) := by
 intro h
 refine pcalls4 (n := 73) Tryz.func3 rfl nm3 rfl fun hb => ?_
 refine pwp_then fun N1 hN1 => ?_
 refine pwp_reg fun R2 hR2 => ?_
 refine pops_to rfl fun M hM => ?_
 simp only [pop, St.eval, constSlot, upd_at, Nat.reduceEqDiff, if_true, if_false, popBox, popBoxRo, slotCells, featPV]
 refine .inr ⟨Nat.succ_pos _, hM _ _ ?_⟩
 clear hM M
 refine pops_to rfl fun M hM => ?_
 simp only [pop, St.eval, constSlot, upd_at, Nat.reduceEqDiff, if_true, if_false, popBox, popBoxRo, slotCells, featPV]
 refine .inr ⟨Nat.succ_pos _, hM _ _ ?_⟩
 clear hM M
 refine pops_mv (.inr rfl) rfl (by simp only [St.eval, constSlot] <;> rfl) ?_
 refine pops_done (hR2 _ ?_)
 clear hR2 R2
 try simp only [thenK, scopeK]
 refine hN1 _ ?_
 clear hN1 N1
 refine pwp_then fun N3 hN3 => ?_
 refine pwp_then fun N4 hN4 => ?_
 refine pwp_reg fun R5 hR5 => ?_
 refine pops_to rfl fun M hM => ?_
 simp only [pop, St.eval, constSlot, upd_at, Nat.reduceEqDiff, if_true, if_false, popCall, List.toList_toArray, List.map_cons, List.map_nil, svs, List.mapM_cons, List.mapM_nil, Option.bind_eq_bind, Option.bind_some, Option.pure_def, List.append_nil, List.cons_append, List.nil_append, str_size, featPV]
 refine PFun.use (landed_fun W0 hm) fun h1 s1 => hM _ _ ?_
 replace s1 := Same.trans (Same.refl _) s1
 clear hM M
 refine pops_to rfl fun M hM => ?_
 simp only [pop, St.eval, constSlot, upd_at, Nat.reduceEqDiff, if_true, if_false, unK, featPV]
 refine hM _ _ ?_
 clear hM M
 refine pops_done (hR5 _ ?_)
 clear hR5 R5
 try simp only [thenK, scopeK]
 refine hN4 _ ?_
 clear hN4 N4
 refine pwp_cond (by simp only [St.eval, upd_at, Nat.reduceEqDiff, if_true, if_false, featPV] <;> rfl) (fun c16 => ?_) (fun c16 => ?_)
 ·skip
  simp at c16
 ·skip
  refine pwp_skip ?_
  try simp only [thenK, scopeK]
  refine hN3 _ ?_
  clear hN3 N3
  refine pwp_then fun N6 hN6 => ?_
  refine pwp_reg fun R7 hR7 => ?_
  refine pops_to rfl fun M hM => ?_
  simp only [pop, St.eval, constSlot, upd_at, Nat.reduceEqDiff, if_true, if_false, List.length_cons, List.length_nil, Nat.zero_add, Nat.reduceAdd, Nat.reduceLeDiff, List.take_zero, List.take_succ_cons, List.take_nil, List.drop_succ_cons, List.drop_zero, List.drop_nil, List.nil_append, List.cons_append, List.append_nil, and_self, List.getElem?_cons_zero, List.getElem?_cons_succ, List.set_cons_zero, List.set_cons_succ, Option.some.injEq, popLoad, loadK, isAggD, List.drop_zero, List.getElem?_toArray, List.getElem?_cons_zero, List.getElem?_cons_succ, Bool.false_eq_true, Tryz.underlying25, sz25, eq_self, true_and, and_true, featPV]
  refine hM _ _ ?_
  clear hM M
  refine pops_to rfl fun M hM => ?_
  simp only [pop, St.eval, constSlot, upd_at, Nat.reduceEqDiff, if_true, if_false, popCall, List.toList_toArray, List.map_cons, List.map_nil, svs, List.mapM_cons, List.mapM_nil, Option.bind_eq_bind, Option.bind_some, Option.pure_def, List.append_nil, List.cons_append, List.nil_append, str_size, featPV]
  refine PFun.use (checkMntRef_fun W0 o) fun h2 s2 => hM _ _ ?_
  replace s2 := Same.trans s1 s2
  clear hM M
  refine pops_mv (.inr rfl) rfl (by simp only [St.eval, upd_at, Nat.reduceEqDiff, if_true, if_false, featPV] <;> rfl) ?_
  refine pops_done (hR7 _ ?_)
  clear hR7 R7
  try simp only [thenK, scopeK]
  refine hN6 _ ?_
  clear hN6 N6
  refine pwp_then fun N8 hN8 => ?_
  refine pwp_then fun N9 hN9 => ?_
  refine pwp_reg fun R10 hR10 => ?_
  refine pops_to rfl fun M hM => ?_
  simp only [pop, St.eval, constSlot, upd_at, Nat.reduceEqDiff, if_true, if_false, List.length_cons, List.length_nil, Nat.zero_add, Nat.reduceAdd, Nat.reduceLeDiff, List.take_zero, List.take_succ_cons, List.take_nil, List.drop_succ_cons, List.drop_zero, List.drop_nil, List.nil_append, List.cons_append, List.append_nil, and_self, List.getElem?_cons_zero, List.getElem?_cons_succ, List.set_cons_zero, List.set_cons_succ, Option.some.injEq, popLoad, loadK, isAggD, List.drop_zero, List.getElem?_toArray, List.getElem?_cons_zero, List.getElem?_cons_succ, Bool.false_eq_true, Tryz.underlying25, sz25, eq_self, true_and, and_true, featPV]
  refine hM _ _ ?_
  clear hM M
  refine pops_to rfl fun M hM => ?_
  simp only [pop, St.eval, constSlot, upd_at, Nat.reduceEqDiff, if_true, if_false, popCall, List.toList_toArray, List.map_cons, List.map_nil, svs, List.mapM_cons, List.mapM_nil, Option.bind_eq_bind, Option.bind_some, Option.pure_def, List.append_nil, List.cons_append, List.nil_append, str_size, featPV]
  refine PFun.use (checkMnt_fun W0 o) fun h3 s3 => hM _ _ ?_
  replace s3 := Same.trans s2 s3
  clear hM M
  refine pops_mv (.inl rfl) rfl (by simp only [St.eval, upd_at, Nat.reduceEqDiff, if_true, if_false, featPV] <;> rfl) ?_
  refine pops_to rfl fun M hM => ?_
  simp only [pop, St.eval, constSlot, upd_at, Nat.reduceEqDiff, if_true, if_false, popBin, binK, intK, strK, eqK, Tryz.underlying27, isPtr, eq_self, true_and, and_true, featPV]
  refine hM _ _ ?_
  clear hM M
  refine pops_done (hR10 _ ?_)
  clear hR10 R10
  try simp only [thenK, scopeK]
  refine hN9 _ ?_
  clear hN9 N9
  refine pwp_cond (by simp only [St.eval, upd_at, Nat.reduceEqDiff, if_true, if_false, featPV] <;> rfl) (fun c22 => ?_) (fun c22 => ?_)
  ·skip
   simp at c22
  ·skip
   refine pwp_skip ?_
   try simp only [thenK, scopeK]
   refine hN8 _ ?_
   clear hN8 N8
   refine pwp_then fun N11 hN11 => ?_
   refine pwp_then fun N12 hN12 => ?_
   refine pwp_reg fun R13 hR13 => ?_
   refine pops_to rfl fun M hM => ?_
   simp only [pop, St.eval, constSlot, upd_at, Nat.reduceEqDiff, if_true, if_false, List.length_cons, List.length_nil, Nat.zero_add, Nat.reduceAdd, Nat.reduceLeDiff, List.take_zero, List.take_succ_cons, List.take_nil, List.drop_succ_cons, List.drop_zero, List.drop_nil, List.nil_append, List.cons_append, List.append_nil, and_self, List.getElem?_cons_zero, List.getElem?_cons_succ, List.set_cons_zero, List.set_cons_succ, Option.some.injEq, popLoad, loadK, isAggD, List.drop_zero, List.getElem?_toArray, List.getElem?_cons_zero, List.getElem?_cons_succ, Bool.false_eq_true, Tryz.underlying23, sz23, eq_self, true_and, and_true, featPV]
   refine hM _ _ ?_
   clear hM M
   refine pops_to rfl fun M hM => ?_
   simp only [pop, St.eval, constSlot, upd_at, Nat.reduceEqDiff, if_true, if_false, popCall, List.toList_toArray, List.map_cons, List.map_nil, svs, List.mapM_cons, List.mapM_nil, Option.bind_eq_bind, Option.bind_some, Option.pure_def, List.append_nil, List.cons_append, List.nil_append, str_size, featPV]
   refine PFun.use (rightFeat_fun W0 x hf hz) fun h4 s4 => hM _ _ ?_
   replace s4 := Same.trans s3 s4
   clear hM M
   refine pops_to rfl fun M hM => ?_
   simp only [pop, St.eval, constSlot, upd_at, Nat.reduceEqDiff, if_true, if_false, unK, featPV]
   refine hM _ _ ?_
   clear hM M
   refine pops_done (hR13 _ ?_)
   clear hR13 R13
   try simp only [thenK, scopeK]
   refine hN12 _ ?_
   clear hN12 N12
   refine pwp_cond (by simp only [St.eval, upd_at, Nat.reduceEqDiff, if_true, if_false, featPV] <;> rfl) (fun c25 => ?_) (fun c25 => ?_)
   ·skip
    refine pwp_then fun N14 hN14 => ?_
    refine pwp_reg fun R15 hR15 => ?_
    refine pops_mv (.inr rfl) rfl (by simp only [St.eval, constSlot] <;> rfl) ?_
    refine pops_done (hR15 _ ?_)
    clear hR15 R15
    try simp only [thenK, scopeK]
    refine hN14 _ ?_
    clear hN14 N14
    refine pwp_ret ?_
    simp only [thenK, blockK, scopeK, bodyK]
    clear hN11 N11
    refine ⟨_, rfl, endFun s4 ?_⟩
    try simp only [upd_at, Nat.reduceEqDiff, if_true, if_false, featPV]
    all_goals
     first
       | rfl
       | (rw [hfin]; simp; done)
       | (exfalso; simp_all; done)
       | (simp; done)
   ·skip
    have hfe : featE x = 0 := by simpa using c25
    refine pwp_skip ?_
    try simp only [thenK, scopeK]
    refine hN11 _ ?_
    clear hN11 N11
    refine pwp_then fun N16 hN16 => ?_
    refine pwp_reg fun R17 hR17 => ?_
    refine pops_to rfl fun M hM => ?_
    simp only [pop, St.eval, constSlot, upd_at, Nat.reduceEqDiff, if_true, if_false, popCall, List.toList_toArray, List.map_cons, List.map_nil, svs, List.mapM_cons, List.mapM_nil, Option.bind_eq_bind, Option.bind_some, Option.pure_def, List.append_nil, List.cons_append, List.nil_append, str_size, featPV]
    refine PFun.use (newClockRo_fun W0 5) fun h5 s5 => hM _ _ ?_
    replace s5 := Same.trans s4 s5
    clear hM M
    refine pops_mv (.inr rfl) rfl (by simp only [St.eval, upd_at, Nat.reduceEqDiff, if_true, if_false, featPV] <;> rfl) ?_
    refine pops_done (hR17 _ ?_)
    clear hR17 R17
    try simp only [thenK, scopeK]
    refine hN16 _ ?_
    clear hN16 N16
    refine pwp_then fun N18 hN18 => ?_
    refine pwp_reg fun R19 hR19 => ?_
    refine pops_to rfl fun M hM => ?_
    simp only [pop, St.eval, constSlot, upd_at, Nat.reduceEqDiff, if_true, if_false, List.length_cons, List.length_nil, Nat.zero_add, Nat.reduceAdd, Nat.reduceLeDiff, List.take_zero, List.take_succ_cons, List.take_nil, List.drop_succ_cons, List.drop_zero, List.drop_nil, List.nil_append, List.cons_append, List.append_nil, and_self, List.getElem?_cons_zero, List.getElem?_cons_succ, List.set_cons_zero, List.set_cons_succ, Option.some.injEq, popLoad, loadK, isAggD, List.drop_zero, List.getElem?_toArray, List.getElem?_cons_zero, List.getElem?_cons_succ, Bool.false_eq_true, Tryz.underlying23, sz23, eq_self, true_and, and_true, featPV]
    refine hM _ _ ?_
    clear hM M
    refine pops_mv (.inl rfl) rfl (by simp only [St.eval, upd_at, Nat.reduceEqDiff, if_true, if_false, featPV] <;> rfl) ?_
    refine pops_to rfl fun M hM => ?_
    simp only [pop, St.eval, constSlot, upd_at, Nat.reduceEqDiff, if_true, if_false, popCall, List.toList_toArray, List.map_cons, List.map_nil, svs, List.mapM_cons, List.mapM_nil, Option.bind_eq_bind, Option.bind_some, Option.pure_def, List.append_nil, List.cons_append, List.nil_append, str_size, featPV]
    refine PFun.use (newPair_fun W0 x hf hfe (clampR 5)) fun h6 s6 => hM _ _ ?_
    replace s6 := Same.trans s5 s6
    clear hM M
    refine pops_mv (.inr rfl) rfl (by simp only [St.eval, upd_at, Nat.reduceEqDiff, if_true, if_false, featPV] <;> rfl) ?_
    refine pops_done (hR19 _ ?_)
    clear hR19 R19
    try simp only [thenK, scopeK]
    refine hN18 _ ?_
    clear hN18 N18
    refine pwp_then fun N20 hN20 => ?_
    refine pwp_then fun N21 hN21 => ?_
    refine pwp_reg fun R22 hR22 => ?_
    refine pops_mv (.inl rfl) rfl (by simp only [St.eval, upd_at, Nat.reduceEqDiff, if_true, if_false, featPV] <;> rfl) ?_
    refine pops_to rfl fun M hM => ?_
    simp only [pop, St.eval, constSlot, upd_at, Nat.reduceEqDiff, if_true, if_false, popBin, binK, intK, strK, eqK, Tryz.underlying32, isPtr, eq_self, true_and, and_true, featPV]
    refine hM _ _ ?_
    clear hM M
    refine pops_done (hR22 _ ?_)
    clear hR22 R22
    try simp only [thenK, scopeK]
    refine hN21 _ ?_
    clear hN21 N21
    refine pwp_cond_false (by simp only [St.eval, upd_at, Nat.reduceEqDiff, if_true, if_false, featPV] <;> rfl) ?_
    refine pwp_skip ?_
    try simp only [thenK, scopeK]
    refine hN20 _ ?_
    clear hN20 N20
    refine pwp_then fun N23 hN23 => ?_
    refine pwp_reg fun R24 hR24 => ?_
    refine pops_mv (.inr rfl) rfl (by simp only [St.eval, constSlot] <;> rfl) ?_
    refine pops_done (hR24 _ ?_)
    clear hR24 R24
    try simp only [thenK, scopeK]
    refine hN23 _ ?_
    clear hN23 N23
    refine pwp_then fun N25 hN25 => ?_
    refine pwp_then fun N26 hN26 => ?_
    refine pwp_reg fun R27 hR27 => ?_
    refine pops_mv (.inl rfl) rfl (by simp only [St.eval, upd_at, Nat.reduceEqDiff, if_true, if_false, featPV] <;> rfl) ?_
    refine pops_done (hR27 _ ?_)
    clear hR27 R27
    try simp only [thenK, scopeK]
    refine hN26 _ ?_
    clear hN26 N26
    refine pwp_cond (by simp only [St.eval, upd_at, Nat.reduceEqDiff, if_true, if_false, featPV] <;> rfl) (fun c32 => ?_) (fun c32 => ?_)
    ·skip
     refine pwp_reg fun R28 hR28 => ?_
     refine pops_mv (.inl rfl) rfl (by simp only [St.eval, upd_at, Nat.reduceEqDiff, if_true, if_false, featPV] <;> rfl) ?_
     refine pops_to rfl fun M hM => ?_
     simp only [pop, St.eval, constSlot, upd_at, Nat.reduceEqDiff, if_true, if_false, eq_self, true_and, and_true, str_list, str_size, str_app, str_cut, str_get, featPV]
     refine hM _ _ ?_
     clear hM M
     refine pops_to rfl fun M hM => ?_
     simp only [pop, St.eval, constSlot, upd_at, Nat.reduceEqDiff, if_true, if_false, popFieldAddr, fieldOf, List.drop_succ_cons, List.drop_zero, List.getElem?_toArray, List.getElem?_cons_zero, List.getElem?_cons_succ, Tryz.underlying39, sz36, featPV]
     refine ⟨⟨_, rfl⟩, hM _ _ ?_⟩
     clear hM M
     refine pops_to rfl fun M hM => ?_
     simp only [pop, St.eval, constSlot, upd_at, Nat.reduceEqDiff, if_true, if_false, popLoad, loadK, isAggD, List.drop_zero, List.getElem?_toArray, List.getElem?_cons_zero, List.getElem?_cons_succ, Bool.false_eq_true, Tryz.underlying36, sz36, eq_self, true_and, and_true, featPV]
     refine hM _ _ ?_
     clear hM M
     refine pops_to rfl fun M hM => ?_
     simp only [pop, St.eval, constSlot, upd_at, Nat.reduceEqDiff, if_true, if_false, ifcOf, notIface, Tryz.underlying36, eq_self, true_and, and_true, str_list, str_size, str_app, str_cut, str_get, featPV]
     refine hM _ _ ?_
     clear hM M
     refine pops_mv (.inr rfl) rfl (by simp only [St.eval, upd_at, Nat.reduceEqDiff, if_true, if_false, featPV] <;> rfl) ?_
     refine pops_done (hR28 _ ?_)
     clear hR28 R28
     try simp only [thenK, scopeK]
     refine hN25 _ ?_
     clear hN25 N25
     refine pwp_then fun N29 hN29 => ?_
     refine pwp_then fun N30 hN30 => ?_
     refine pwp_reg fun R31 hR31 => ?_
     refine pops_mv (.inl rfl) rfl (by simp only [St.eval, upd_at, Nat.reduceEqDiff, if_true, if_false, featPV] <;> rfl) ?_
     refine pops_to rfl fun M hM => ?_
     simp only [pop, St.eval, constSlot, upd_at, Nat.reduceEqDiff, if_true, if_false, unK, featPV]
     refine hM _ _ ?_
     clear hM M
     refine pops_done (hR31 _ ?_)
     clear hR31 R31
     try simp only [thenK, scopeK]
     refine hN30 _ ?_
     clear hN30 N30
     refine pwp_cond (by simp only [St.eval, upd_at, Nat.reduceEqDiff, if_true, if_false, featPV] <;> rfl) (fun c39 => ?_) (fun c39 => ?_)
     ·skip
      refine pwp_reg fun R32 hR32 => ?_
      refine pops_mv (.inr rfl) rfl (by simp only [St.eval, constSlot] <;> rfl) ?_
      refine pops_done (hR32 _ ?_)
      clear hR32 R32
      try simp only [thenK, scopeK]
      refine hN29 _ ?_
      clear hN29 N29
      refine pwp_then fun N33 hN33 => ?_
      refine pwp_block ?_
      refine pwp_then fun N34 hN34 => ?_
      refine pwp_reg fun R35 hR35 => ?_
      refine pops_mv (.inl rfl) rfl (by simp only [St.eval, upd_at, Nat.reduceEqDiff, if_true, if_false, featPV] <;> rfl) ?_
      refine pops_to rfl fun M hM => ?_
      simp only [pop, St.eval, constSlot, upd_at, Nat.reduceEqDiff, if_true, if_false, unK, featPV]
      refine hM _ _ ?_
      clear hM M
      refine pops_mv (.inl rfl) rfl (by simp only [St.eval, upd_at, Nat.reduceEqDiff, if_true, if_false, featPV] <;> rfl) ?_
      apply pops_or0 3 43 46 [44, 45] (by simp only [upd_at, Nat.reduceEqDiff, if_true, if_false, featPV] <;> rfl)
      ·skip
       intro g43_0 J36 hJ36
       simp only [List.take_succ_cons, List.take_zero]
       simp only [anyAt_cons, anyAt_nil] at hJ36
       refine pops_mvg (.inl rfl) rfl rfl (by simp only [upd_at, Nat.reduceEqDiff, if_true, if_false, featPV, g43_0]) (by simp only [St.eval, upd_at, Nat.reduceEqDiff, if_true, if_false, featPV, g43_0] <;> rfl) ?_
       refine pops_do rfl rfl (by simp only [upd_at, Nat.reduceEqDiff, if_true, if_false, featPV, g43_0]) fun M hM => ?_
       simp only [pop, St.eval, constSlot, upd_at, Nat.reduceEqDiff, if_true, if_false, unK, featPV, g43_0]
       refine hM _ _ ?_
       clear hM M
       refine pops_to rfl fun M hM => ?_
       simp only [pop, St.eval, constSlot, upd_at, Nat.reduceEqDiff, if_true, if_false, popIf, true_implies, false_implies, Bool.true_eq_false, Bool.false_eq_true, reduceCtorEq, true_and, and_true, featPV, g43_0]
       refine hM _ _ ?_
       clear hM M
       exact pops_done (hJ36 _ (wk_same (wk_any ((wk_any (Wk.refl _ _))))))
      ·skip
       intro g43_0 J36 hJ36
       simp only [List.take_succ_cons, List.take_zero]
       simp only [anyAt_cons, anyAt_nil] at hJ36
       refine pops_off (b := true) rfl rfl (by simp only [upd_at, Nat.reduceEqDiff, if_true, if_false, featPV, g43_0]) (by decide) ?_
       refine pops_off (b := true) rfl rfl (by simp only [upd_at, Nat.reduceEqDiff, if_true, if_false, featPV, g43_0]) (by decide) ?_
       refine pops_to rfl fun M hM => ?_
       simp only [pop, St.eval, constSlot, upd_at, Nat.reduceEqDiff, if_true, if_false, popIf, true_implies, false_implies, Bool.true_eq_false, Bool.false_eq_true, reduceCtorEq, true_and, and_true, featPV, g43_0]
       refine hM _ _ ?_
       clear hM M
       exact pops_done (hJ36 _ (wk_same (wk_any ((wk_any (Wk.refl _ _))))))
      simp only [List.drop_succ_cons, List.drop_zero, anyAt_cons, anyAt_nil]
      refine pops_mv (.inr rfl) rfl (by simp only [St.eval, upd_at, Nat.reduceEqDiff, if_true, if_false, featPV] <;> rfl) ?_
      refine pops_done (hR35 _ ?_)
      clear hR35 R35
      try simp only [thenK, scopeK]
      refine hN34 _ ?_
      clear hN34 N34
      refine pwp_cond (by simp only [St.eval, upd_at, Nat.reduceEqDiff, if_true, if_false, featPV] <;> rfl) (fun c40 => ?_) (fun c40 => ?_)
      ·skip
       refine pwp_reg fun R37 hR37 => ?_
       refine pops_mv (.inr rfl) rfl (by simp only [St.eval, constSlot] <;> rfl) ?_
       refine pops_done (hR37 _ ?_)
       clear hR37 R37
       try simp only [blockK, thenK, scopeK]
       try simp only [thenK, scopeK]
       refine hN33 _ ?_
       clear hN33 N33
       refine pwp_then fun N38 hN38 => ?_
       refine pwp_reg fun R39 hR39 => ?_
       refine pops_mv (.inl rfl) rfl (by simp only [St.eval, upd_at, Nat.reduceEqDiff, if_true, if_false, featPV] <;> rfl) ?_
       refine pops_mv (.inl rfl) rfl (by simp only [St.eval, upd_at, Nat.reduceEqDiff, if_true, if_false, featPV] <;> rfl) ?_
       refine pops_to rfl fun M hM => ?_
       simp only [pop, St.eval, constSlot, upd_at, Nat.reduceEqDiff, if_true, if_false, List.length_cons, List.length_nil, Nat.zero_add, Nat.reduceAdd, Nat.reduceLeDiff, List.take_zero, List.take_succ_cons, List.take_nil, List.drop_succ_cons, List.drop_zero, List.drop_nil, List.nil_append, List.cons_append, List.append_nil, and_self, List.getElem?_cons_zero, List.getElem?_cons_succ, List.set_cons_zero, List.set_cons_succ, Option.some.injEq, popLoad, loadK, isAggD, List.drop_zero, List.getElem?_toArray, List.getElem?_cons_zero, List.getElem?_cons_succ, Bool.false_eq_true, Tryz.underlying25, sz25, eq_self, true_and, and_true, featPV]
       refine hM _ _ ?_
       clear hM M
       refine pops_to rfl fun M hM => ?_
       simp only [pop, St.eval, constSlot, upd_at, Nat.reduceEqDiff, if_true, if_false, popCall, List.toList_toArray, List.map_cons, List.map_nil, svs, List.mapM_cons, List.mapM_nil, Option.bind_eq_bind, Option.bind_some, Option.pure_def, List.append_nil, List.cons_append, List.nil_append, str_size, featPV]
       first
         | refine PFun.use (newMnt_fun W0 x _ o) fun h9 s9 => hM _ _ ?_
         | refine PFun.use (newNilC_fun W0 x o) fun h9 s9 => hM _ _ ?_
         | refine PFun.use (newNilS_fun W0 _ o) fun h9 s9 => hM _ _ ?_
       replace s9 := Same.trans s6 s9
       clear hM M
       refine pops_mv (.inl rfl) rfl (by simp only [St.eval, upd_at, Nat.reduceEqDiff, if_true, if_false, featPV] <;> rfl) ?_
       refine pops_to rfl fun M hM => ?_
       simp only [pop, St.eval, constSlot, upd_at, Nat.reduceEqDiff, if_true, if_false, List.getElem?_toArray, List.getElem?_cons_zero, List.getElem?_cons_succ, featPV]
       refine hM _ _ ?_
       clear hM M
       refine pops_to rfl fun M hM => ?_
       simp only [pop, St.eval, constSlot, upd_at, Nat.reduceEqDiff, if_true, if_false, List.getElem?_toArray, List.getElem?_cons_zero, List.getElem?_cons_succ, featPV]
       refine hM _ _ ?_
       clear hM M
       refine pops_mv (.inr rfl) rfl (by simp only [St.eval, upd_at, Nat.reduceEqDiff, if_true, if_false, featPV] <;> rfl) ?_
       refine pops_mv (.inr rfl) rfl (by simp only [St.eval, upd_at, Nat.reduceEqDiff, if_true, if_false, featPV] <;> rfl) ?_
       refine pops_done (hR39 _ ?_)
       clear hR39 R39
       try simp only [thenK, scopeK]
       refine hN38 _ ?_
       clear hN38 N38
       refine pwp_then fun N40 hN40 => ?_
       refine pwp_reg fun R41 hR41 => ?_
       refine pops_mv (.inl rfl) rfl (by simp only [St.eval, upd_at, Nat.reduceEqDiff, if_true, if_false, featPV] <;> rfl) ?_
       refine pops_mv (.inl rfl) rfl (by simp only [St.eval, upd_at, Nat.reduceEqDiff, if_true, if_false, featPV] <;> rfl) ?_
       refine pops_to rfl fun M hM => ?_
       simp only [pop, St.eval, constSlot, upd_at, Nat.reduceEqDiff, if_true, if_false, popBin, binK, intK, strK, eqK, Tryz.underlying27, isPtr, eq_self, true_and, and_true, featPV]
       refine hM _ _ ?_
       clear hM M
       refine pops_mv (.inl rfl) rfl (by simp only [St.eval, upd_at, Nat.reduceEqDiff, if_true, if_false, featPV] <;> rfl) ?_
       apply pops_and0 6 66 72 [67, 68, 69, 70, 71] (by simp only [upd_at, Nat.reduceEqDiff, if_true, if_false, featPV] <;> rfl)
       ·skip
        intro g66_0 J42 hJ42
        simp only [List.take_succ_cons, List.take_zero]
        simp only [anyAt_cons, anyAt_nil] at hJ42
        refine pops_mvg (.inl rfl) rfl rfl (by simp only [upd_at, Nat.reduceEqDiff, if_true, if_false, featPV, g66_0]) (by simp only [St.eval, upd_at, Nat.reduceEqDiff, if_true, if_false, featPV, g66_0] <;> rfl) ?_
        refine pops_do rfl rfl (by simp only [upd_at, Nat.reduceEqDiff, if_true, if_false, featPV, g66_0]) fun M hM => ?_
        simp only [pop, St.eval, constSlot, upd_at, Nat.reduceEqDiff, if_true, if_false, eq_self, true_and, and_true, featPV, g66_0]
        refine newP_neq Tryz.underlying40 (hM _ _ ?_)
        clear hM M
        refine pops_mvg (.inl rfl) rfl rfl (by simp only [upd_at, Nat.reduceEqDiff, if_true, if_false, featPV, g66_0]) (by simp only [St.eval, upd_at, Nat.reduceEqDiff, if_true, if_false, featPV, g66_0] <;> rfl) ?_
        refine pops_do rfl rfl (by simp only [upd_at, Nat.reduceEqDiff, if_true, if_false, featPV, g66_0]) fun M hM => ?_
        simp only [pop, St.eval, constSlot, upd_at, Nat.reduceEqDiff, if_true, if_false, popBin, binK, intK, strK, eqK, Tryz.underlying27, isPtr, eq_self, true_and, and_true, featPV, g66_0]
        refine hM _ _ ?_
        clear hM M
        refine pops_do rfl rfl (by simp only [upd_at, Nat.reduceEqDiff, if_true, if_false, featPV, g66_0]) fun M hM => ?_
        simp only [pop, St.eval, constSlot, upd_at, Nat.reduceEqDiff, if_true, if_false, popBin, binK, intK, strK, eqK, Tryz.underlying4, isPtr, eq_self, true_and, and_true, featPV, g66_0]
        refine hM _ _ ?_
        clear hM M
        refine pops_to rfl fun M hM => ?_
        simp only [pop, St.eval, constSlot, upd_at, Nat.reduceEqDiff, if_true, if_false, popIf, true_implies, false_implies, Bool.true_eq_false, Bool.false_eq_true, reduceCtorEq, true_and, and_true, featPV, g66_0]
        refine hM _ _ ?_
        clear hM M
        exact pops_done (hJ42 _ (wk_same (wk_any ((wk_any ((wk_any ((wk_any ((wk_any (Wk.refl _ _))))))))))))
       ·skip
        intro g66_0 J42 hJ42
        simp only [List.take_succ_cons, List.take_zero]
        simp only [anyAt_cons, anyAt_nil] at hJ42
        refine pops_off (b := false) rfl rfl (by simp only [upd_at, Nat.reduceEqDiff, if_true, if_false, featPV, g66_0]) (by decide) ?_
        refine pops_off (b := false) rfl rfl (by simp only [upd_at, Nat.reduceEqDiff, if_true, if_false, featPV, g66_0]) (by decide) ?_
        refine pops_off (b := false) rfl rfl (by simp only [upd_at, Nat.reduceEqDiff, if_true, if_false, featPV, g66_0]) (by decide) ?_
        refine pops_off (b := false) rfl rfl (by simp only [upd_at, Nat.reduceEqDiff, if_true, if_false, featPV, g66_0]) (by decide) ?_
        refine pops_off (b := false) rfl rfl (by simp only [upd_at, Nat.reduceEqDiff, if_true, if_false, featPV, g66_0]) (by decide) ?_
        refine pops_to rfl fun M hM => ?_
        simp only [pop, St.eval, constSlot, upd_at, Nat.reduceEqDiff, if_true, if_false, popIf, true_implies, false_implies, Bool.true_eq_false, Bool.false_eq_true, reduceCtorEq, true_and, and_true, featPV, g66_0]
        refine hM _ _ ?_
        clear hM M
        exact pops_done (hJ42 _ (wk_same (wk_any ((wk_any ((wk_any ((wk_any ((wk_any (Wk.refl _ _))))))))))))
       simp only [List.drop_succ_cons, List.drop_zero, anyAt_cons, anyAt_nil]
       refine pops_mv (.inr rfl) rfl (by simp only [St.eval, upd_at, Nat.reduceEqDiff, if_true, if_false, featPV] <;> rfl) ?_
       refine pops_done (hR41 _ ?_)
       clear hR41 R41
       try simp only [thenK, scopeK]
       refine hN40 _ ?_
       clear hN40 N40
       refine pwp_ret ?_
       simp only [thenK, blockK, scopeK, bodyK]
       refine ⟨_, rfl, endFun s9 ?_⟩
       try simp only [upd_at, Nat.reduceEqDiff, if_true, if_false, featPV]
       all_goals
        first
          | rfl
          | (rw [hfin]; simp; done)
          | (exfalso; simp_all; done)
          | (simp; done)
      ·skip
       refine pwp_then fun N43 hN43 => ?_
       refine pwp_reg fun R44 hR44 => ?_
       refine pops_mv (.inl rfl) rfl (by simp only [St.eval, upd_at, Nat.reduceEqDiff, if_true, if_false, featPV] <;> rfl) ?_
       refine pops_to rfl fun M hM => ?_
       simp only [pop, St.eval, constSlot, upd_at, Nat.reduceEqDiff, if_true, if_false, popBin, binK, intK, strK, eqK, Tryz.underlying27, isPtr, eq_self, true_and, and_true, featPV]
       refine hM _ _ ?_
       clear hM M
       refine pops_mv (.inl rfl) rfl (by simp only [St.eval, upd_at, Nat.reduceEqDiff, if_true, if_false, featPV] <;> rfl) ?_
       apply pops_and0 5 50 55 [51, 52, 53, 54] (by simp only [upd_at, Nat.reduceEqDiff, if_true, if_false, featPV] <;> rfl)
       ·skip
        intro g50_0 J45 hJ45
        simp only [List.take_succ_cons, List.take_zero]
        simp only [anyAt_cons, anyAt_nil] at hJ45
        refine pops_do rfl rfl (by simp only [upd_at, Nat.reduceEqDiff, if_true, if_false, featPV, g50_0]) fun M hM => ?_
        simp only [pop, St.eval, constSlot, upd_at, Nat.reduceEqDiff, if_true, if_false, popFieldAddr, fieldOf, List.drop_succ_cons, List.drop_zero, List.getElem?_toArray, List.getElem?_cons_zero, List.getElem?_cons_succ, Tryz.underlying23, sz3, featPV, g50_0]
        refine ⟨⟨_, rfl⟩, hM _ _ ?_⟩
        clear hM M
        refine pops_do rfl rfl (by simp only [upd_at, Nat.reduceEqDiff, if_true, if_false, featPV, g50_0]) fun M hM => ?_
        simp only [pop, St.eval, constSlot, upd_at, Nat.reduceEqDiff, if_true, if_false, popLoad, loadK, isAggD, List.drop_zero, List.getElem?_toArray, List.getElem?_cons_zero, List.getElem?_cons_succ, Bool.false_eq_true, Tryz.underlying3, sz3, eq_self, true_and, and_true, featPV, g50_0]
        refine hM _ _ ?_
        clear hM M
        refine pops_do rfl rfl (by simp only [upd_at, Nat.reduceEqDiff, if_true, if_false, featPV, g50_0]) fun M hM => ?_
        simp only [pop, St.eval, constSlot, upd_at, Nat.reduceEqDiff, if_true, if_false, popBin, binK, intK, strK, eqK, eq_self, true_and, and_true, featPV, g50_0]
        refine hM _ _ ?_
        clear hM M
        refine pops_do rfl rfl (by simp only [upd_at, Nat.reduceEqDiff, if_true, if_false, featPV, g50_0]) fun M hM => ?_
        simp only [pop, St.eval, constSlot, upd_at, Nat.reduceEqDiff, if_true, if_false, popBin, binK, intK, strK, eqK, Tryz.underlying3, isPtr, eq_self, true_and, and_true, featPV, g50_0]
        refine hM _ _ ?_
        clear hM M
        refine pops_to rfl fun M hM => ?_
        simp only [pop, St.eval, constSlot, upd_at, Nat.reduceEqDiff, if_true, if_false, popIf, true_implies, false_implies, Bool.true_eq_false, Bool.false_eq_true, reduceCtorEq, true_and, and_true, featPV, g50_0]
        refine hM _ _ ?_
        clear hM M
        exact pops_done (hJ45 _ (wk_same (wk_any ((wk_any ((wk_any ((wk_any (Wk.refl _ _))))))))))
       ·skip
        intro g50_0 J45 hJ45
        simp only [List.take_succ_cons, List.take_zero]
        simp only [anyAt_cons, anyAt_nil] at hJ45
        refine pops_off (b := false) rfl rfl (by simp only [upd_at, Nat.reduceEqDiff, if_true, if_false, featPV, g50_0]) (by decide) ?_
        refine pops_off (b := false) rfl rfl (by simp only [upd_at, Nat.reduceEqDiff, if_true, if_false, featPV, g50_0]) (by decide) ?_
        refine pops_off (b := false) rfl rfl (by simp only [upd_at, Nat.reduceEqDiff, if_true, if_false, featPV, g50_0]) (by decide) ?_
        refine pops_off (b := false) rfl rfl (by simp only [upd_at, Nat.reduceEqDiff, if_true, if_false, featPV, g50_0]) (by decide) ?_
        refine pops_to rfl fun M hM => ?_
        simp only [pop, St.eval, constSlot, upd_at, Nat.reduceEqDiff, if_true, if_false, popIf, true_implies, false_implies, Bool.true_eq_false, Bool.false_eq_true, reduceCtorEq, true_and, and_true, featPV, g50_0]
        refine hM _ _ ?_
        clear hM M
        exact pops_done (hJ45 _ (wk_same (wk_any ((wk_any ((wk_any ((wk_any (Wk.refl _ _))))))))))
       simp only [List.drop_succ_cons, List.drop_zero, anyAt_cons, anyAt_nil]
       refine pops_mv (.inr rfl) rfl (by simp only [St.eval, upd_at, Nat.reduceEqDiff, if_true, if_false, featPV] <;> rfl) ?_
       refine pops_done (hR44 _ ?_)
       clear hR44 R44
       try simp only [thenK, scopeK]
       refine hN43 _ ?_
       clear hN43 N43
       refine pwp_cond (by simp only [St.eval, upd_at, Nat.reduceEqDiff, if_true, if_false, featPV] <;> rfl) (fun c47 => ?_) (fun c47 => ?_)
       ·skip
        have hfin := mnt_12 (x := x) c47
        refine pwp_reg fun R46 hR46 => ?_
        refine pops_mv (.inr rfl) rfl (by simp only [St.eval, constSlot] <;> rfl) ?_
        refine pops_done (hR46 _ ?_)
        clear hR46 R46
        try simp only [blockK, thenK, scopeK]
        try simp only [thenK, scopeK]
        refine hN33 _ ?_
        clear hN33 N33
        refine pwp_then fun N47 hN47 => ?_
        refine pwp_reg fun R48 hR48 => ?_
        refine pops_mv (.inl rfl) rfl (by simp only [St.eval, upd_at, Nat.reduceEqDiff, if_true, if_false, featPV] <;> rfl) ?_
        refine pops_mv (.inl rfl) rfl (by simp only [St.eval, upd_at, Nat.reduceEqDiff, if_true, if_false, featPV] <;> rfl) ?_
        refine pops_to rfl fun M hM => ?_
        simp only [pop, St.eval, constSlot, upd_at, Nat.reduceEqDiff, if_true, if_false, List.length_cons, List.length_nil, Nat.zero_add, Nat.reduceAdd, Nat.reduceLeDiff, List.take_zero, List.take_succ_cons, List.take_nil, List.drop_succ_cons, List.drop_zero, List.drop_nil, List.nil_append, List.cons_append, List.append_nil, and_self, List.getElem?_cons_zero, List.getElem?_cons_succ, List.set_cons_zero, List.set_cons_succ, Option.some.injEq, popLoad, loadK, isAggD, List.drop_zero, List.getElem?_toArray, List.getElem?_cons_zero, List.getElem?_cons_succ, Bool.false_eq_true, Tryz.underlying25, sz25, eq_self, true_and, and_true, featPV]
        refine hM _ _ ?_
        clear hM M
        refine pops_to rfl fun M hM => ?_
        simp only [pop, St.eval, constSlot, upd_at, Nat.reduceEqDiff, if_true, if_false, popCall, List.toList_toArray, List.map_cons, List.map_nil, svs, List.mapM_cons, List.mapM_nil, Option.bind_eq_bind, Option.bind_some, Option.pure_def, List.append_nil, List.cons_append, List.nil_append, str_size, featPV]
        first
          | refine PFun.use (newMnt_fun W0 x _ o) fun h9 s9 => hM _ _ ?_
          | refine PFun.use (newNilC_fun W0 x o) fun h9 s9 => hM _ _ ?_
          | refine PFun.use (newNilS_fun W0 _ o) fun h9 s9 => hM _ _ ?_
        replace s9 := Same.trans s6 s9
        clear hM M
        refine pops_mv (.inl rfl) rfl (by simp only [St.eval, upd_at, Nat.reduceEqDiff, if_true, if_false, featPV] <;> rfl) ?_
        refine pops_to rfl fun M hM => ?_
        simp only [pop, St.eval, constSlot, upd_at, Nat.reduceEqDiff, if_true, if_false, List.getElem?_toArray, List.getElem?_cons_zero, List.getElem?_cons_succ, featPV]
        refine hM _ _ ?_
        clear hM M
        refine pops_to rfl fun M hM => ?_
        simp only [pop, St.eval, constSlot, upd_at, Nat.reduceEqDiff, if_true, if_false, List.getElem?_toArray, List.getElem?_cons_zero, List.getElem?_cons_succ, featPV]
        refine hM _ _ ?_
        clear hM M
        refine pops_mv (.inr rfl) rfl (by simp only [St.eval, upd_at, Nat.reduceEqDiff, if_true, if_false, featPV] <;> rfl) ?_
        refine pops_mv (.inr rfl) rfl (by simp only [St.eval, upd_at, Nat.reduceEqDiff, if_true, if_false, featPV] <;> rfl) ?_
        refine pops_done (hR48 _ ?_)
        clear hR48 R48
        try simp only [thenK, scopeK]
        refine hN47 _ ?_
        clear hN47 N47
        refine pwp_then fun N49 hN49 => ?_
        refine pwp_reg fun R50 hR50 => ?_
        refine pops_mv (.inl rfl) rfl (by simp only [St.eval, upd_at, Nat.reduceEqDiff, if_true, if_false, featPV] <;> rfl) ?_
        refine pops_mv (.inl rfl) rfl (by simp only [St.eval, upd_at, Nat.reduceEqDiff, if_true, if_false, featPV] <;> rfl) ?_
        refine pops_to rfl fun M hM => ?_
        simp only [pop, St.eval, constSlot, upd_at, Nat.reduceEqDiff, if_true, if_false, popBin, binK, intK, strK, eqK, Tryz.underlying27, isPtr, eq_self, true_and, and_true, featPV]
        refine hM _ _ ?_
        clear hM M
        refine pops_mv (.inl rfl) rfl (by simp only [St.eval, upd_at, Nat.reduceEqDiff, if_true, if_false, featPV] <;> rfl) ?_
        apply pops_and0 6 66 72 [67, 68, 69, 70, 71] (by simp only [upd_at, Nat.reduceEqDiff, if_true, if_false, featPV] <;> rfl)
        ·skip
         intro g66_0 J51 hJ51
         simp only [List.take_succ_cons, List.take_zero]
         simp only [anyAt_cons, anyAt_nil] at hJ51
         refine pops_mvg (.inl rfl) rfl rfl (by simp only [upd_at, Nat.reduceEqDiff, if_true, if_false, featPV, g66_0]) (by simp only [St.eval, upd_at, Nat.reduceEqDiff, if_true, if_false, featPV, g66_0] <;> rfl) ?_
         refine pops_do rfl rfl (by simp only [upd_at, Nat.reduceEqDiff, if_true, if_false, featPV, g66_0]) fun M hM => ?_
         simp only [pop, St.eval, constSlot, upd_at, Nat.reduceEqDiff, if_true, if_false, eq_self, true_and, and_true, featPV, g66_0]
         refine newP_neq Tryz.underlying40 (hM _ _ ?_)
         clear hM M
         refine pops_mvg (.inl rfl) rfl rfl (by simp only [upd_at, Nat.reduceEqDiff, if_true, if_false, featPV, g66_0]) (by simp only [St.eval, upd_at, Nat.reduceEqDiff, if_true, if_false, featPV, g66_0] <;> rfl) ?_
         refine pops_do rfl rfl (by simp only [upd_at, Nat.reduceEqDiff, if_true, if_false, featPV, g66_0]) fun M hM => ?_
         simp only [pop, St.eval, constSlot, upd_at, Nat.reduceEqDiff, if_true, if_false, popBin, binK, intK, strK, eqK, Tryz.underlying27, isPtr, eq_self, true_and, and_true, featPV, g66_0]
         refine hM _ _ ?_
         clear hM M
         refine pops_do rfl rfl (by simp only [upd_at, Nat.reduceEqDiff, if_true, if_false, featPV, g66_0]) fun M hM => ?_
         simp only [pop, St.eval, constSlot, upd_at, Nat.reduceEqDiff, if_true, if_false, popBin, binK, intK, strK, eqK, Tryz.underlying4, isPtr, eq_self, true_and, and_true, featPV, g66_0]
         refine hM _ _ ?_
         clear hM M
         refine pops_to rfl fun M hM => ?_
         simp only [pop, St.eval, constSlot, upd_at, Nat.reduceEqDiff, if_true, if_false, popIf, true_implies, false_implies, Bool.true_eq_false, Bool.false_eq_true, reduceCtorEq, true_and, and_true, featPV, g66_0]
         refine hM _ _ ?_
         clear hM M
         exact pops_done (hJ51 _ (wk_same (wk_any ((wk_any ((wk_any ((wk_any ((wk_any (Wk.refl _ _))))))))))))
        ·skip
         intro g66_0 J51 hJ51
         simp only [List.take_succ_cons, List.take_zero]
         simp only [anyAt_cons, anyAt_nil] at hJ51
         refine pops_off (b := false) rfl rfl (by simp only [upd_at, Nat.reduceEqDiff, if_true, if_false, featPV, g66_0]) (by decide) ?_
         refine pops_off (b := false) rfl rfl (by simp only [upd_at, Nat.reduceEqDiff, if_true, if_false, featPV, g66_0]) (by decide) ?_
         refine pops_off (b := false) rfl rfl (by simp only [upd_at, Nat.reduceEqDiff, if_true, if_false, featPV, g66_0]) (by decide) ?_
         refine pops_off (b := false) rfl rfl (by simp only [upd_at, Nat.reduceEqDiff, if_true, if_false, featPV, g66_0]) (by decide) ?_
         refine pops_off (b := false) rfl rfl (by simp only [upd_at, Nat.reduceEqDiff, if_true, if_false, featPV, g66_0]) (by decide) ?_
         refine pops_to rfl fun M hM => ?_
         simp only [pop, St.eval, constSlot, upd_at, Nat.reduceEqDiff, if_true, if_false, popIf, true_implies, false_implies, Bool.true_eq_false, Bool.false_eq_true, reduceCtorEq, true_and, and_true, featPV, g66_0]
         refine hM _ _ ?_
         clear hM M
         exact pops_done (hJ51 _ (wk_same (wk_any ((wk_any ((wk_any ((wk_any ((wk_any (Wk.refl _ _))))))))))))
        simp only [List.drop_succ_cons, List.drop_zero, anyAt_cons, anyAt_nil]
        refine pops_mv (.inr rfl) rfl (by simp only [St.eval, upd_at, Nat.reduceEqDiff, if_true, if_false, featPV] <;> rfl) ?_
        refine pops_done (hR50 _ ?_)
        clear hR50 R50
        try simp only [thenK, scopeK]
        refine hN49 _ ?_
        clear hN49 N49
        refine pwp_ret ?_
        simp only [thenK, blockK, scopeK, bodyK]
        refine ⟨_, rfl, endFun s9 ?_⟩
        try simp only [upd_at, Nat.reduceEqDiff, if_true, if_false, featPV]
        all_goals
         first
           | rfl
           | (rw [hfin]; simp; done)
           | (exfalso; simp_all; done)
           | (simp; done)
       ·skip
        have hfin := mnt_fin (x := x) c47
        refine pwp_skip ?_
        try simp only [blockK, thenK, scopeK]
        try simp only [thenK, scopeK]
        refine hN33 _ ?_
        clear hN33 N33
        refine pwp_then fun N52 hN52 => ?_
        refine pwp_reg fun R53 hR53 => ?_
        refine pops_mv (.inl rfl) rfl (by simp only [St.eval, upd_at, Nat.reduceEqDiff, if_true, if_false, featPV] <;> rfl) ?_
        refine pops_mv (.inl rfl) rfl (by simp only [St.eval, upd_at, Nat.reduceEqDiff, if_true, if_false, featPV] <;> rfl) ?_
        refine pops_to rfl fun M hM => ?_
        simp only [pop, St.eval, constSlot, upd_at, Nat.reduceEqDiff, if_true, if_false, List.length_cons, List.length_nil, Nat.zero_add, Nat.reduceAdd, Nat.reduceLeDiff, List.take_zero, List.take_succ_cons, List.take_nil, List.drop_succ_cons, List.drop_zero, List.drop_nil, List.nil_append, List.cons_append, List.append_nil, and_self, List.getElem?_cons_zero, List.getElem?_cons_succ, List.set_cons_zero, List.set_cons_succ, Option.some.injEq, popLoad, loadK, isAggD, List.drop_zero, List.getElem?_toArray, List.getElem?_cons_zero, List.getElem?_cons_succ, Bool.false_eq_true, Tryz.underlying25, sz25, eq_self, true_and, and_true, featPV]
        refine hM _ _ ?_
        clear hM M
        refine pops_to rfl fun M hM => ?_
        simp only [pop, St.eval, constSlot, upd_at, Nat.reduceEqDiff, if_true, if_false, popCall, List.toList_toArray, List.map_cons, List.map_nil, svs, List.mapM_cons, List.mapM_nil, Option.bind_eq_bind, Option.bind_some, Option.pure_def, List.append_nil, List.cons_append, List.nil_append, str_size, featPV]
        first
          | refine PFun.use (newMnt_fun W0 x _ o) fun h9 s9 => hM _ _ ?_
          | refine PFun.use (newNilC_fun W0 x o) fun h9 s9 => hM _ _ ?_
          | refine PFun.use (newNilS_fun W0 _ o) fun h9 s9 => hM _ _ ?_
        replace s9 := Same.trans s6 s9
        clear hM M
        refine pops_mv (.inl rfl) rfl (by simp only [St.eval, upd_at, Nat.reduceEqDiff, if_true, if_false, featPV] <;> rfl) ?_
        refine pops_to rfl fun M hM => ?_
        simp only [pop, St.eval, constSlot, upd_at, Nat.reduceEqDiff, if_true, if_false, List.getElem?_toArray, List.getElem?_cons_zero, List.getElem?_cons_succ, featPV]
        refine hM _ _ ?_
        clear hM M
        refine pops_to rfl fun M hM => ?_
        simp only [pop, St.eval, constSlot, upd_at, Nat.reduceEqDiff, if_true, if_false, List.getElem?_toArray, List.getElem?_cons_zero, List.getElem?_cons_succ, featPV]
        refine hM _ _ ?_
        clear hM M
        refine pops_mv (.inr rfl) rfl (by simp only [St.eval, upd_at, Nat.reduceEqDiff, if_true, if_false, featPV] <;> rfl) ?_
        refine pops_mv (.inr rfl) rfl (by simp only [St.eval, upd_at, Nat.reduceEqDiff, if_true, if_false, featPV] <;> rfl) ?_
        refine pops_done (hR53 _ ?_)
        clear hR53 R53
        try simp only [thenK, scopeK]
        refine hN52 _ ?_
        clear hN52 N52
        refine pwp_then fun N54 hN54 => ?_
        refine pwp_reg fun R55 hR55 => ?_
        refine pops_mv (.inl rfl) rfl (by simp only [St.eval, upd_at, Nat.reduceEqDiff, if_true, if_false, featPV] <;> rfl) ?_
        refine pops_mv (.inl rfl) rfl (by simp only [St.eval, upd_at, Nat.reduceEqDiff, if_true, if_false, featPV] <;> rfl) ?_
        refine pops_to rfl fun M hM => ?_
        simp only [pop, St.eval, constSlot, upd_at, Nat.reduceEqDiff, if_true, if_false, popBin, binK, intK, strK, eqK, Tryz.underlying27, isPtr, eq_self, true_and, and_true, featPV]
        refine hM _ _ ?_
        clear hM M
        refine pops_mv (.inl rfl) rfl (by simp only [St.eval, upd_at, Nat.reduceEqDiff, if_true, if_false, featPV] <;> rfl) ?_
        apply pops_and0 6 66 72 [67, 68, 69, 70, 71] (by simp only [upd_at, Nat.reduceEqDiff, if_true, if_false, featPV] <;> rfl)
        ·skip
         intro g66_0 J56 hJ56
         simp only [List.take_succ_cons, List.take_zero]
         simp only [anyAt_cons, anyAt_nil] at hJ56
         refine pops_mvg (.inl rfl) rfl rfl (by simp only [upd_at, Nat.reduceEqDiff, if_true, if_false, featPV, g66_0]) (by simp only [St.eval, upd_at, Nat.reduceEqDiff, if_true, if_false, featPV, g66_0] <;> rfl) ?_
         refine pops_do rfl rfl (by simp only [upd_at, Nat.reduceEqDiff, if_true, if_false, featPV, g66_0]) fun M hM => ?_
         simp only [pop, St.eval, constSlot, upd_at, Nat.reduceEqDiff, if_true, if_false, eq_self, true_and, and_true, featPV, g66_0]
         refine newP_neq Tryz.underlying40 (hM _ _ ?_)
         clear hM M
         refine pops_mvg (.inl rfl) rfl rfl (by simp only [upd_at, Nat.reduceEqDiff, if_true, if_false, featPV, g66_0]) (by simp only [St.eval, upd_at, Nat.reduceEqDiff, if_true, if_false, featPV, g66_0] <;> rfl) ?_
         refine pops_do rfl rfl (by simp only [upd_at, Nat.reduceEqDiff, if_true, if_false, featPV, g66_0]) fun M hM => ?_
         simp only [pop, St.eval, constSlot, upd_at, Nat.reduceEqDiff, if_true, if_false, popBin, binK, intK, strK, eqK, Tryz.underlying27, isPtr, eq_self, true_and, and_true, featPV, g66_0]
         refine hM _ _ ?_
         clear hM M
         refine pops_do rfl rfl (by simp only [upd_at, Nat.reduceEqDiff, if_true, if_false, featPV, g66_0]) fun M hM => ?_
         simp only [pop, St.eval, constSlot, upd_at, Nat.reduceEqDiff, if_true, if_false, popBin, binK, intK, strK, eqK, Tryz.underlying4, isPtr, eq_self, true_and, and_true, featPV, g66_0]
         refine hM _ _ ?_
         clear hM M
         refine pops_to rfl fun M hM => ?_
         simp only [pop, St.eval, constSlot, upd_at, Nat.reduceEqDiff, if_true, if_false, popIf, true_implies, false_implies, Bool.true_eq_false, Bool.false_eq_true, reduceCtorEq, true_and, and_true, featPV, g66_0]
         refine hM _ _ ?_
         clear hM M
         exact pops_done (hJ56 _ (wk_same (wk_any ((wk_any ((wk_any ((wk_any ((wk_any (Wk.refl _ _))))))))))))
        ·skip
         intro g66_0 J56 hJ56
         simp only [List.take_succ_cons, List.take_zero]
         simp only [anyAt_cons, anyAt_nil] at hJ56
         refine pops_off (b := false) rfl rfl (by simp only [upd_at, Nat.reduceEqDiff, if_true, if_false, featPV, g66_0]) (by decide) ?_
         refine pops_off (b := false) rfl rfl (by simp only [upd_at, Nat.reduceEqDiff, if_true, if_false, featPV, g66_0]) (by decide) ?_
         refine pops_off (b := false) rfl rfl (by simp only [upd_at, Nat.reduceEqDiff, if_true, if_false, featPV, g66_0]) (by decide) ?_
         refine pops_off (b := false) rfl rfl (by simp only [upd_at, Nat.reduceEqDiff, if_true, if_false, featPV, g66_0]) (by decide) ?_
         refine pops_off (b := false) rfl rfl (by simp only [upd_at, Nat.reduceEqDiff, if_true, if_false, featPV, g66_0]) (by decide) ?_
         refine pops_to rfl fun M hM => ?_
         simp only [pop, St.eval, constSlot, upd_at, Nat.reduceEqDiff, if_true, if_false, popIf, true_implies, false_implies, Bool.true_eq_false, Bool.false_eq_true, reduceCtorEq, true_and, and_true, featPV, g66_0]
         refine hM _ _ ?_
         clear hM M
         exact pops_done (hJ56 _ (wk_same (wk_any ((wk_any ((wk_any ((wk_any ((wk_any (Wk.refl _ _))))))))))))
        simp only [List.drop_succ_cons, List.drop_zero, anyAt_cons, anyAt_nil]
        refine pops_mv (.inr rfl) rfl (by simp only [St.eval, upd_at, Nat.reduceEqDiff, if_true, if_false, featPV] <;> rfl) ?_
        refine pops_done (hR55 _ ?_)
        clear hR55 R55
        try simp only [thenK, scopeK]
        refine hN54 _ ?_
        clear hN54 N54
        refine pwp_ret ?_
        simp only [thenK, blockK, scopeK, bodyK]
        refine ⟨_, rfl, endFun s9 ?_⟩
        try simp only [upd_at, Nat.reduceEqDiff, if_true, if_false, featPV]
        all_goals
         first
           | rfl
           | (rw [hfin]; simp; done)
           | (exfalso; simp_all; done)
           | (simp; done)
     ·skip
      refine pwp_skip ?_
      try simp only [thenK, scopeK]
      refine hN29 _ ?_
      clear hN29 N29
      refine pwp_then fun N57 hN57 => ?_
      refine pwp_block ?_
      refine pwp_then fun N58 hN58 => ?_
      refine pwp_reg fun R59 hR59 => ?_
      refine pops_mv (.inl rfl) rfl (by simp only [St.eval, upd_at, Nat.reduceEqDiff, if_true, if_false, featPV] <;> rfl) ?_
      refine pops_to rfl fun M hM => ?_
      simp only [pop, St.eval, constSlot, upd_at, Nat.reduceEqDiff, if_true, if_false, unK, featPV]
      refine hM _ _ ?_
      clear hM M
      refine pops_mv (.inl rfl) rfl (by simp only [St.eval, upd_at, Nat.reduceEqDiff, if_true, if_false, featPV] <;> rfl) ?_
      apply pops_or0 3 43 46 [44, 45] (by simp only [upd_at, Nat.reduceEqDiff, if_true, if_false, featPV] <;> rfl)
      ·skip
       intro g43_0 J60 hJ60
       simp only [List.take_succ_cons, List.take_zero]
       simp only [anyAt_cons, anyAt_nil] at hJ60
       refine pops_mvg (.inl rfl) rfl rfl (by simp only [upd_at, Nat.reduceEqDiff, if_true, if_false, featPV, g43_0]) (by simp only [St.eval, upd_at, Nat.reduceEqDiff, if_true, if_false, featPV, g43_0] <;> rfl) ?_
       refine pops_do rfl rfl (by simp only [upd_at, Nat.reduceEqDiff, if_true, if_false, featPV, g43_0]) fun M hM => ?_
       simp only [pop, St.eval, constSlot, upd_at, Nat.reduceEqDiff, if_true, if_false, unK, featPV, g43_0]
       refine hM _ _ ?_
       clear hM M
       refine pops_to rfl fun M hM => ?_
       simp only [pop, St.eval, constSlot, upd_at, Nat.reduceEqDiff, if_true, if_false, popIf, true_implies, false_implies, Bool.true_eq_false, Bool.false_eq_true, reduceCtorEq, true_and, and_true, featPV, g43_0]
       refine hM _ _ ?_
       clear hM M
       exact pops_done (hJ60 _ (wk_same (wk_any ((wk_any (Wk.refl _ _))))))
      ·skip
       intro g43_0 J60 hJ60
       simp only [List.take_succ_cons, List.take_zero]
       simp only [anyAt_cons, anyAt_nil] at hJ60
       refine pops_off (b := true) rfl rfl (by simp only [upd_at, Nat.reduceEqDiff, if_true, if_false, featPV, g43_0]) (by decide) ?_
       refine pops_off (b := true) rfl rfl (by simp only [upd_at, Nat.reduceEqDiff, if_true, if_false, featPV, g43_0]) (by decide) ?_
       refine pops_to rfl fun M hM => ?_
       simp only [pop, St.eval, constSlot, upd_at, Nat.reduceEqDiff, if_true, if_false, popIf, true_implies, false_implies, Bool.true_eq_false, Bool.false_eq_true, reduceCtorEq, true_and, and_true, featPV, g43_0]
       refine hM _ _ ?_
       clear hM M
       exact pops_done (hJ60 _ (wk_same (wk_any ((wk_any (Wk.refl _ _))))))
      simp only [List.drop_succ_cons, List.drop_zero, anyAt_cons, anyAt_nil]
      refine pops_mv (.inr rfl) rfl (by simp only [St.eval, upd_at, Nat.reduceEqDiff, if_true, if_false, featPV] <;> rfl) ?_
      refine pops_done (hR59 _ ?_)
      clear hR59 R59
      try simp only [thenK, scopeK]
      refine hN58 _ ?_
      clear hN58 N58
      refine pwp_cond (by simp only [St.eval, upd_at, Nat.reduceEqDiff, if_true, if_false, featPV] <;> rfl) (fun c40 => ?_) (fun c40 => ?_)
      ·skip
       refine pwp_reg fun R61 hR61 => ?_
       refine pops_mv (.inr rfl) rfl (by simp only [St.eval, constSlot] <;> rfl) ?_
       refine pops_done (hR61 _ ?_)
       clear hR61 R61
       try simp only [blockK, thenK, scopeK]
       try simp only [thenK, scopeK]
       refine hN57 _ ?_
       clear hN57 N57
       refine pwp_then fun N62 hN62 => ?_
       refine pwp_reg fun R63 hR63 => ?_
       refine pops_mv (.inl rfl) rfl (by simp only [St.eval, upd_at, Nat.reduceEqDiff, if_true, if_false, featPV] <;> rfl) ?_
       refine pops_mv (.inl rfl) rfl (by simp only [St.eval, upd_at, Nat.reduceEqDiff, if_true, if_false, featPV] <;> rfl) ?_
       refine pops_to rfl fun M hM => ?_
       simp only [pop, St.eval, constSlot, upd_at, Nat.reduceEqDiff, if_true, if_false, List.length_cons, List.length_nil, Nat.zero_add, Nat.reduceAdd, Nat.reduceLeDiff, List.take_zero, List.take_succ_cons, List.take_nil, List.drop_succ_cons, List.drop_zero, List.drop_nil, List.nil_append, List.cons_append, List.append_nil, and_self, List.getElem?_cons_zero, List.getElem?_cons_succ, List.set_cons_zero, List.set_cons_succ, Option.some.injEq, popLoad, loadK, isAggD, List.drop_zero, List.getElem?_toArray, List.getElem?_cons_zero, List.getElem?_cons_succ, Bool.false_eq_true, Tryz.underlying25, sz25, eq_self, true_and, and_true, featPV]
       refine hM _ _ ?_
       clear hM M
       refine pops_to rfl fun M hM => ?_
       simp only [pop, St.eval, constSlot, upd_at, Nat.reduceEqDiff, if_true, if_false, popCall, List.toList_toArray, List.map_cons, List.map_nil, svs, List.mapM_cons, List.mapM_nil, Option.bind_eq_bind, Option.bind_some, Option.pure_def, List.append_nil, List.cons_append, List.nil_append, str_size, featPV]
       first
         | refine PFun.use (newMnt_fun W0 x _ o) fun h9 s9 => hM _ _ ?_
         | refine PFun.use (newNilC_fun W0 x o) fun h9 s9 => hM _ _ ?_
         | refine PFun.use (newNilS_fun W0 _ o) fun h9 s9 => hM _ _ ?_
       replace s9 := Same.trans s6 s9
       clear hM M
       refine pops_mv (.inl rfl) rfl (by simp only [St.eval, upd_at, Nat.reduceEqDiff, if_true, if_false, featPV] <;> rfl) ?_
       refine pops_to rfl fun M hM => ?_
       simp only [pop, St.eval, constSlot, upd_at, Nat.reduceEqDiff, if_true, if_false, List.getElem?_toArray, List.getElem?_cons_zero, List.getElem?_cons_succ, featPV]
       refine hM _ _ ?_
       clear hM M
       refine pops_to rfl fun M hM => ?_
       simp only [pop, St.eval, constSlot, upd_at, Nat.reduceEqDiff, if_true, if_false, List.getElem?_toArray, List.getElem?_cons_zero, List.getElem?_cons_succ, featPV]
       refine hM _ _ ?_
       clear hM M
       refine pops_mv (.inr rfl) rfl (by simp only [St.eval, upd_at, Nat.reduceEqDiff, if_true, if_false, featPV] <;> rfl) ?_
       refine pops_mv (.inr rfl) rfl (by simp only [St.eval, upd_at, Nat.reduceEqDiff, if_true, if_false, featPV] <;> rfl) ?_
       refine pops_done (hR63 _ ?_)
       clear hR63 R63
       try simp only [thenK, scopeK]
       refine hN62 _ ?_
       clear hN62 N62
       refine pwp_then fun N64 hN64 => ?_
       refine pwp_reg fun R65 hR65 => ?_
       refine pops_mv (.inl rfl) rfl (by simp only [St.eval, upd_at, Nat.reduceEqDiff, if_true, if_false, featPV] <;> rfl) ?_
       refine pops_mv (.inl rfl) rfl (by simp only [St.eval, upd_at, Nat.reduceEqDiff, if_true, if_false, featPV] <;> rfl) ?_
       refine pops_to rfl fun M hM => ?_
       simp only [pop, St.eval, constSlot, upd_at, Nat.reduceEqDiff, if_true, if_false, popBin, binK, intK, strK, eqK, Tryz.underlying27, isPtr, eq_self, true_and, and_true, featPV]
       refine hM _ _ ?_
       clear hM M
       refine pops_mv (.inl rfl) rfl (by simp only [St.eval, upd_at, Nat.reduceEqDiff, if_true, if_false, featPV] <;> rfl) ?_
       apply pops_and0 6 66 72 [67, 68, 69, 70, 71] (by simp only [upd_at, Nat.reduceEqDiff, if_true, if_false, featPV] <;> rfl)
       ·skip
        intro g66_0 J66 hJ66
        simp only [List.take_succ_cons, List.take_zero]
        simp only [anyAt_cons, anyAt_nil] at hJ66
        refine pops_mvg (.inl rfl) rfl rfl (by simp only [upd_at, Nat.reduceEqDiff, if_true, if_false, featPV, g66_0]) (by simp only [St.eval, upd_at, Nat.reduceEqDiff, if_true, if_false, featPV, g66_0] <;> rfl) ?_
        refine pops_do rfl rfl (by simp only [upd_at, Nat.reduceEqDiff, if_true, if_false, featPV, g66_0]) fun M hM => ?_
        simp only [pop, St.eval, constSlot, upd_at, Nat.reduceEqDiff, if_true, if_false, eq_self, true_and, and_true, featPV, g66_0]
        refine newP_neq Tryz.underlying40 (hM _ _ ?_)
        clear hM M
        refine pops_mvg (.inl rfl) rfl rfl (by simp only [upd_at, Nat.reduceEqDiff, if_true, if_false, featPV, g66_0]) (by simp only [St.eval, upd_at, Nat.reduceEqDiff, if_true, if_false, featPV, g66_0] <;> rfl) ?_
        refine pops_do rfl rfl (by simp only [upd_at, Nat.reduceEqDiff, if_true, if_false, featPV, g66_0]) fun M hM => ?_
        simp only [pop, St.eval, constSlot, upd_at, Nat.reduceEqDiff, if_true, if_false, popBin, binK, intK, strK, eqK, Tryz.underlying27, isPtr, eq_self, true_and, and_true, featPV, g66_0]
        refine hM _ _ ?_
        clear hM M
        refine pops_do rfl rfl (by simp only [upd_at, Nat.reduceEqDiff, if_true, if_false, featPV, g66_0]) fun M hM => ?_
        simp only [pop, St.eval, constSlot, upd_at, Nat.reduceEqDiff, if_true, if_false, popBin, binK, intK, strK, eqK, Tryz.underlying4, isPtr, eq_self, true_and, and_true, featPV, g66_0]
        refine hM _ _ ?_
        clear hM M
        refine pops_to rfl fun M hM => ?_
        simp only [pop, St.eval, constSlot, upd_at, Nat.reduceEqDiff, if_true, if_false, popIf, true_implies, false_implies, Bool.true_eq_false, Bool.false_eq_true, reduceCtorEq, true_and, and_true, featPV, g66_0]
        refine hM _ _ ?_
        clear hM M
        exact pops_done (hJ66 _ (wk_same (wk_any ((wk_any ((wk_any ((wk_any ((wk_any (Wk.refl _ _))))))))))))
       ·skip
        intro g66_0 J66 hJ66
        simp only [List.take_succ_cons, List.take_zero]
        simp only [anyAt_cons, anyAt_nil] at hJ66
        refine pops_off (b := false) rfl rfl (by simp only [upd_at, Nat.reduceEqDiff, if_true, if_false, featPV, g66_0]) (by decide) ?_
        refine pops_off (b := false) rfl rfl (by simp only [upd_at, Nat.reduceEqDiff, if_true, if_false, featPV, g66_0]) (by decide) ?_
        refine pops_off (b := false) rfl rfl (by simp only [upd_at, Nat.reduceEqDiff, if_true, if_false, featPV, g66_0]) (by decide) ?_
        refine pops_off (b := false) rfl rfl (by simp only [upd_at, Nat.reduceEqDiff, if_true, if_false, featPV, g66_0]) (by decide) ?_
        refine pops_off (b := false) rfl rfl (by simp only [upd_at, Nat.reduceEqDiff, if_true, if_false, featPV, g66_0]) (by decide) ?_
        refine pops_to rfl fun M hM => ?_
        simp only [pop, St.eval, constSlot, upd_at, Nat.reduceEqDiff, if_true, if_false, popIf, true_implies, false_implies, Bool.true_eq_false, Bool.false_eq_true, reduceCtorEq, true_and, and_true, featPV, g66_0]
        refine hM _ _ ?_
        clear hM M
        exact pops_done (hJ66 _ (wk_same (wk_any ((wk_any ((wk_any ((wk_any ((wk_any (Wk.refl _ _))))))))))))
       simp only [List.drop_succ_cons, List.drop_zero, anyAt_cons, anyAt_nil]
       refine pops_mv (.inr rfl) rfl (by simp only [St.eval, upd_at, Nat.reduceEqDiff, if_true, if_false, featPV] <;> rfl) ?_
       refine pops_done (hR65 _ ?_)
       clear hR65 R65
       try simp only [thenK, scopeK]
       refine hN64 _ ?_
       clear hN64 N64
       refine pwp_ret ?_
       simp only [thenK, blockK, scopeK, bodyK]
       refine ⟨_, rfl, endFun s9 ?_⟩
       try simp only [upd_at, Nat.reduceEqDiff, if_true, if_false, featPV]
       all_goals
        first
          | rfl
          | (rw [hfin]; simp; done)
          | (exfalso; simp_all; done)
          | (simp; done)
      ·skip
       refine pwp_then fun N67 hN67 => ?_
       refine pwp_reg fun R68 hR68 => ?_
       refine pops_mv (.inl rfl) rfl (by simp only [St.eval, upd_at, Nat.reduceEqDiff, if_true, if_false, featPV] <;> rfl) ?_
       refine pops_to rfl fun M hM => ?_
       simp only [pop, St.eval, constSlot, upd_at, Nat.reduceEqDiff, if_true, if_false, popBin, binK, intK, strK, eqK, Tryz.underlying27, isPtr, eq_self, true_and, and_true, featPV]
       refine hM _ _ ?_
       clear hM M
       refine pops_mv (.inl rfl) rfl (by simp only [St.eval, upd_at, Nat.reduceEqDiff, if_true, if_false, featPV] <;> rfl) ?_
       apply pops_and0 5 50 55 [51, 52, 53, 54] (by simp only [upd_at, Nat.reduceEqDiff, if_true, if_false, featPV] <;> rfl)
       ·skip
        intro g50_0 J69 hJ69
        simp only [List.take_succ_cons, List.take_zero]
        simp only [anyAt_cons, anyAt_nil] at hJ69
        refine pops_do rfl rfl (by simp only [upd_at, Nat.reduceEqDiff, if_true, if_false, featPV, g50_0]) fun M hM => ?_
        simp only [pop, St.eval, constSlot, upd_at, Nat.reduceEqDiff, if_true, if_false, popFieldAddr, fieldOf, List.drop_succ_cons, List.drop_zero, List.getElem?_toArray, List.getElem?_cons_zero, List.getElem?_cons_succ, Tryz.underlying23, sz3, featPV, g50_0]
        refine ⟨⟨_, rfl⟩, hM _ _ ?_⟩
        clear hM M
        refine pops_do rfl rfl (by simp only [upd_at, Nat.reduceEqDiff, if_true, if_false, featPV, g50_0]) fun M hM => ?_
        simp only [pop, St.eval, constSlot, upd_at, Nat.reduceEqDiff, if_true, if_false, popLoad, loadK, isAggD, List.drop_zero, List.getElem?_toArray, List.getElem?_cons_zero, List.getElem?_cons_succ, Bool.false_eq_true, Tryz.underlying3, sz3, eq_self, true_and, and_true, featPV, g50_0]
        refine hM _ _ ?_
        clear hM M
        refine pops_do rfl rfl (by simp only [upd_at, Nat.reduceEqDiff, if_true, if_false, featPV, g50_0]) fun M hM => ?_
        simp only [pop, St.eval, constSlot, upd_at, Nat.reduceEqDiff, if_true, if_false, popBin, binK, intK, strK, eqK, eq_self, true_and, and_true, featPV, g50_0]
        refine hM _ _ ?_
        clear hM M
        refine pops_do rfl rfl (by simp only [upd_at, Nat.reduceEqDiff, if_true, if_false, featPV, g50_0]) fun M hM => ?_
        simp only [pop, St.eval, constSlot, upd_at, Nat.reduceEqDiff, if_true, if_false, popBin, binK, intK, strK, eqK, Tryz.underlying3, isPtr, eq_self, true_and, and_true, featPV, g50_0]
        refine hM _ _ ?_
        clear hM M
        refine pops_to rfl fun M hM => ?_
        simp only [pop, St.eval, constSlot, upd_at, Nat.reduceEqDiff, if_true, if_false, popIf, true_implies, false_implies, Bool.true_eq_false, Bool.false_eq_true, reduceCtorEq, true_and, and_true, featPV, g50_0]
        refine hM _ _ ?_
        clear hM M
        exact pops_done (hJ69 _ (wk_same (wk_any ((wk_any ((wk_any ((wk_any (Wk.refl _ _))))))))))
       ·skip
        intro g50_0 J69 hJ69
        simp only [List.take_succ_cons, List.take_zero]
        simp only [anyAt_cons, anyAt_nil] at hJ69
        refine pops_off (b := false) rfl rfl (by simp only [upd_at, Nat.reduceEqDiff, if_true, if_false, featPV, g50_0]) (by decide) ?_
        refine pops_off (b := false) rfl rfl (by simp only [upd_at, Nat.reduceEqDiff, if_true, if_false, featPV, g50_0]) (by decide) ?_
        refine pops_off (b := false) rfl rfl (by simp only [upd_at, Nat.reduceEqDiff, if_true, if_false, featPV, g50_0]) (by decide) ?_
        refine pops_off (b := false) rfl rfl (by simp only [upd_at, Nat.reduceEqDiff, if_true, if_false, featPV, g50_0]) (by decide) ?_
        refine pops_to rfl fun M hM => ?_
        simp only [pop, St.eval, constSlot, upd_at, Nat.reduceEqDiff, if_true, if_false, popIf, true_implies, false_implies, Bool.true_eq_false, Bool.false_eq_true, reduceCtorEq, true_and, and_true, featPV, g50_0]
        refine hM _ _ ?_
        clear hM M
        exact pops_done (hJ69 _ (wk_same (wk_any ((wk_any ((wk_any ((wk_any (Wk.refl _ _))))))))))
       simp only [List.drop_succ_cons, List.drop_zero, anyAt_cons, anyAt_nil]
       refine pops_mv (.inr rfl) rfl (by simp only [St.eval, upd_at, Nat.reduceEqDiff, if_true, if_false, featPV] <;> rfl) ?_
       refine pops_done (hR68 _ ?_)
       clear hR68 R68
       try simp only [thenK, scopeK]
       refine hN67 _ ?_
       clear hN67 N67
       refine pwp_cond (by simp only [St.eval, upd_at, Nat.reduceEqDiff, if_true, if_false, featPV] <;> rfl) (fun c47 => ?_) (fun c47 => ?_)
       ·skip
        have hfin := mnt_12 (x := x) c47
        refine pwp_reg fun R70 hR70 => ?_
        refine pops_mv (.inr rfl) rfl (by simp only [St.eval, constSlot] <;> rfl) ?_
        refine pops_done (hR70 _ ?_)
        clear hR70 R70
        try simp only [blockK, thenK, scopeK]
        try simp only [thenK, scopeK]
        refine hN57 _ ?_
        clear hN57 N57
        refine pwp_then fun N71 hN71 => ?_
        refine pwp_reg fun R72 hR72 => ?_
        refine pops_mv (.inl rfl) rfl (by simp only [St.eval, upd_at, Nat.reduceEqDiff, if_true, if_false, featPV] <;> rfl) ?_
        refine pops_mv (.inl rfl) rfl (by simp only [St.eval, upd_at, Nat.reduceEqDiff, if_true, if_false, featPV] <;> rfl) ?_
        refine pops_to rfl fun M hM => ?_
        simp only [pop, St.eval, constSlot, upd_at, Nat.reduceEqDiff, if_true, if_false, List.length_cons, List.length_nil, Nat.zero_add, Nat.reduceAdd, Nat.reduceLeDiff, List.take_zero, List.take_succ_cons, List.take_nil, List.drop_succ_cons, List.drop_zero, List.drop_nil, List.nil_append, List.cons_append, List.append_nil, and_self, List.getElem?_cons_zero, List.getElem?_cons_succ, List.set_cons_zero, List.set_cons_succ, Option.some.injEq, popLoad, loadK, isAggD, List.drop_zero, List.getElem?_toArray, List.getElem?_cons_zero, List.getElem?_cons_succ, Bool.false_eq_true, Tryz.underlying25, sz25, eq_self, true_and, and_true, featPV]
        refine hM _ _ ?_
        clear hM M
        refine pops_to rfl fun M hM => ?_
        simp only [pop, St.eval, constSlot, upd_at, Nat.reduceEqDiff, if_true, if_false, popCall, List.toList_toArray, List.map_cons, List.map_nil, svs, List.mapM_cons, List.mapM_nil, Option.bind_eq_bind, Option.bind_some, Option.pure_def, List.append_nil, List.cons_append, List.nil_append, str_size, featPV]
        first
          | refine PFun.use (newMnt_fun W0 x _ o) fun h9 s9 => hM _ _ ?_
          | refine PFun.use (newNilC_fun W0 x o) fun h9 s9 => hM _ _ ?_
          | refine PFun.use (newNilS_fun W0 _ o) fun h9 s9 => hM _ _ ?_
        replace s9 := Same.trans s6 s9
        clear hM M
        refine pops_mv (.inl rfl) rfl (by simp only [St.eval, upd_at, Nat.reduceEqDiff, if_true, if_false, featPV] <;> rfl) ?_
        refine pops_to rfl fun M hM => ?_
        simp only [pop, St.eval, constSlot, upd_at, Nat.reduceEqDiff, if_true, if_false, List.getElem?_toArray, List.getElem?_cons_zero, List.getElem?_cons_succ, featPV]
        refine hM _ _ ?_
        clear hM M
        refine pops_to rfl fun M hM => ?_
        simp only [pop, St.eval, constSlot, upd_at, Nat.reduceEqDiff, if_true, if_false, List.getElem?_toArray, List.getElem?_cons_zero, List.getElem?_cons_succ, featPV]
        refine hM _ _ ?_
        clear hM M
        refine pops_mv (.inr rfl) rfl (by simp only [St.eval, upd_at, Nat.reduceEqDiff, if_true, if_false, featPV] <;> rfl) ?_
        refine pops_mv (.inr rfl) rfl (by simp only [St.eval, upd_at, Nat.reduceEqDiff, if_true, if_false, featPV] <;> rfl) ?_
        refine pops_done (hR72 _ ?_)
        clear hR72 R72
        try simp only [thenK, scopeK]
        refine hN71 _ ?_
        clear hN71 N71
        refine pwp_then fun N73 hN73 => ?_
        refine pwp_reg fun R74 hR74 => ?_
        refine pops_mv (.inl rfl) rfl (by simp only [St.eval, upd_at, Nat.reduceEqDiff, if_true, if_false, featPV] <;> rfl) ?_
        refine pops_mv (.inl rfl) rfl (by simp only [St.eval, upd_at, Nat.reduceEqDiff, if_true, if_false, featPV] <;> rfl) ?_
        refine pops_to rfl fun M hM => ?_
        simp only [pop, St.eval, constSlot, upd_at, Nat.reduceEqDiff, if_true, if_false, popBin, binK, intK, strK, eqK, Tryz.underlying27, isPtr, eq_self, true_and, and_true, featPV]
        refine hM _ _ ?_
        clear hM M
        refine pops_mv (.inl rfl) rfl (by simp only [St.eval, upd_at, Nat.reduceEqDiff, if_true, if_false, featPV] <;> rfl) ?_
        apply pops_and0 6 66 72 [67, 68, 69, 70, 71] (by simp only [upd_at, Nat.reduceEqDiff, if_true, if_false, featPV] <;> rfl)
        ·skip
         intro g66_0 J75 hJ75
         simp only [List.take_succ_cons, List.take_zero]
         simp only [anyAt_cons, anyAt_nil] at hJ75
         refine pops_mvg (.inl rfl) rfl rfl (by simp only [upd_at, Nat.reduceEqDiff, if_true, if_false, featPV, g66_0]) (by simp only [St.eval, upd_at, Nat.reduceEqDiff, if_true, if_false, featPV, g66_0] <;> rfl) ?_
         refine pops_do rfl rfl (by simp only [upd_at, Nat.reduceEqDiff, if_true, if_false, featPV, g66_0]) fun M hM => ?_
         simp only [pop, St.eval, constSlot, upd_at, Nat.reduceEqDiff, if_true, if_false, eq_self, true_and, and_true, featPV, g66_0]
         refine newP_neq Tryz.underlying40 (hM _ _ ?_)
         clear hM M
         refine pops_mvg (.inl rfl) rfl rfl (by simp only [upd_at, Nat.reduceEqDiff, if_true, if_false, featPV, g66_0]) (by simp only [St.eval, upd_at, Nat.reduceEqDiff, if_true, if_false, featPV, g66_0] <;> rfl) ?_
         refine pops_do rfl rfl (by simp only [upd_at, Nat.reduceEqDiff, if_true, if_false, featPV, g66_0]) fun M hM => ?_
         simp only [pop, St.eval, constSlot, upd_at, Nat.reduceEqDiff, if_true, if_false, popBin, binK, intK, strK, eqK, Tryz.underlying27, isPtr, eq_self, true_and, and_true, featPV, g66_0]
         refine hM _ _ ?_
         clear hM M
         refine pops_do rfl rfl (by simp only [upd_at, Nat.reduceEqDiff, if_true, if_false, featPV, g66_0]) fun M hM => ?_
         simp only [pop, St.eval, constSlot, upd_at, Nat.reduceEqDiff, if_true, if_false, popBin, binK, intK, strK, eqK, Tryz.underlying4, isPtr, eq_self, true_and, and_true, featPV, g66_0]
         refine hM _ _ ?_
         clear hM M
         refine pops_to rfl fun M hM => ?_
         simp only [pop, St.eval, constSlot, upd_at, Nat.reduceEqDiff, if_true, if_false, popIf, true_implies, false_implies, Bool.true_eq_false, Bool.false_eq_true, reduceCtorEq, true_and, and_true, featPV, g66_0]
         refine hM _ _ ?_
         clear hM M
         exact pops_done (hJ75 _ (wk_same (wk_any ((wk_any ((wk_any ((wk_any ((wk_any (Wk.refl _ _))))))))))))
        ·skip
         intro g66_0 J75 hJ75
         simp only [List.take_succ_cons, List.take_zero]
         simp only [anyAt_cons, anyAt_nil] at hJ75
         refine pops_off (b := false) rfl rfl (by simp only [upd_at, Nat.reduceEqDiff, if_true, if_false, featPV, g66_0]) (by decide) ?_
         refine pops_off (b := false) rfl rfl (by simp only [upd_at, Nat.reduceEqDiff, if_true, if_false, featPV, g66_0]) (by decide) ?_
         refine pops_off (b := false) rfl rfl (by simp only [upd_at, Nat.reduceEqDiff, if_true, if_false, featPV, g66_0]) (by decide) ?_
         refine pops_off (b := false) rfl rfl (by simp only [upd_at, Nat.reduceEqDiff, if_true, if_false, featPV, g66_0]) (by decide) ?_
         refine pops_off (b := false) rfl rfl (by simp only [upd_at, Nat.reduceEqDiff, if_true, if_false, featPV, g66_0]) (by decide) ?_
         refine pops_to rfl fun M hM => ?_
         simp only [pop, St.eval, constSlot, upd_at, Nat.reduceEqDiff, if_true, if_false, popIf, true_implies, false_implies, Bool.true_eq_false, Bool.false_eq_true, reduceCtorEq, true_and, and_true, featPV, g66_0]
         refine hM _ _ ?_
         clear hM M
         exact pops_done (hJ75 _ (wk_same (wk_any ((wk_any ((wk_any ((wk_any ((wk_any (Wk.refl _ _))))))))))))
        simp only [List.drop_succ_cons, List.drop_zero, anyAt_cons, anyAt_nil]
        refine pops_mv (.inr rfl) rfl (by simp only [St.eval, upd_at, Nat.reduceEqDiff, if_true, if_false, featPV] <;> rfl) ?_
        refine pops_done (hR74 _ ?_)
        clear hR74 R74
        try simp only [thenK, scopeK]
        refine hN73 _ ?_
        clear hN73 N73
        refine pwp_ret ?_
        simp only [thenK, blockK, scopeK, bodyK]
        refine ⟨_, rfl, endFun s9 ?_⟩
        try simp only [upd_at, Nat.reduceEqDiff, if_true, if_false, featPV]
        all_goals
         first
           | rfl
           | (rw [hfin]; simp; done)
           | (exfalso; simp_all; done)
           | (simp; done)
       ·skip
        have hfin := mnt_fin (x := x) c47
        refine pwp_skip ?_
        try simp only [blockK, thenK, scopeK]
        try simp only [thenK, scopeK]
        refine hN57 _ ?_
        clear hN57 N57
        refine pwp_then fun N76 hN76 => ?_
        refine pwp_reg fun R77 hR77 => ?_
        refine pops_mv (.inl rfl) rfl (by simp only [St.eval, upd_at, Nat.reduceEqDiff, if_true, if_false, featPV] <;> rfl) ?_
        refine pops_mv (.inl rfl) rfl (by simp only [St.eval, upd_at, Nat.reduceEqDiff, if_true, if_false, featPV] <;> rfl) ?_
        refine pops_to rfl fun M hM => ?_
        simp only [pop, St.eval, constSlot, upd_at, Nat.reduceEqDiff, if_true, if_false, List.length_cons, List.length_nil, Nat.zero_add, Nat.reduceAdd, Nat.reduceLeDiff, List.take_zero, List.take_succ_cons, List.take_nil, List.drop_succ_cons, List.drop_zero, List.drop_nil, List.nil_append, List.cons_append, List.append_nil, and_self, List.getElem?_cons_zero, List.getElem?_cons_succ, List.set_cons_zero, List.set_cons_succ, Option.some.injEq, popLoad, loadK, isAggD, List.drop_zero, List.getElem?_toArray, List.getElem?_cons_zero, List.getElem?_cons_succ, Bool.false_eq_true, Tryz.underlying25, sz25, eq_self, true_and, and_true, featPV]
        refine hM _ _ ?_
        clear hM M
        refine pops_to rfl fun M hM => ?_
        simp only [pop, St.eval, constSlot, upd_at, Nat.reduceEqDiff, if_true, if_false, popCall, List.toList_toArray, List.map_cons, List.map_nil, svs, List.mapM_cons, List.mapM_nil, Option.bind_eq_bind, Option.bind_some, Option.pure_def, List.append_nil, List.cons_append, List.nil_append, str_size, featPV]
        first
          | refine PFun.use (newMnt_fun W0 x _ o) fun h9 s9 => hM _ _ ?_
          | refine PFun.use (newNilC_fun W0 x o) fun h9 s9 => hM _ _ ?_
          | refine PFun.use (newNilS_fun W0 _ o) fun h9 s9 => hM _ _ ?_
        replace s9 := Same.trans s6 s9
        clear hM M
        refine pops_mv (.inl rfl) rfl (by simp only [St.eval, upd_at, Nat.reduceEqDiff, if_true, if_false, featPV] <;> rfl) ?_
        refine pops_to rfl fun M hM => ?_
        simp only [pop, St.eval, constSlot, upd_at, Nat.reduceEqDiff, if_true, if_false, List.getElem?_toArray, List.getElem?_cons_zero, List.getElem?_cons_succ, featPV]
        refine hM _ _ ?_
        clear hM M
        refine pops_to rfl fun M hM => ?_
        simp only [pop, St.eval, constSlot, upd_at, Nat.reduceEqDiff, if_true, if_false, List.getElem?_toArray, List.getElem?_cons_zero, List.getElem?_cons_succ, featPV]
        refine hM _ _ ?_
        clear hM M
        refine pops_mv (.inr rfl) rfl (by simp only [St.eval, upd_at, Nat.reduceEqDiff, if_true, if_false, featPV] <;> rfl) ?_
        refine pops_mv (.inr rfl) rfl (by simp only [St.eval, upd_at, Nat.reduceEqDiff, if_true, if_false, featPV] <;> rfl) ?_
        refine pops_done (hR77 _ ?_)
        clear hR77 R77
        try simp only [thenK, scopeK]
        refine hN76 _ ?_
        clear hN76 N76
        refine pwp_then fun N78 hN78 => ?_
        refine pwp_reg fun R79 hR79 => ?_
        refine pops_mv (.inl rfl) rfl (by simp only [St.eval, upd_at, Nat.reduceEqDiff, if_true, if_false, featPV] <;> rfl) ?_
        refine pops_mv (.inl rfl) rfl (by simp only [St.eval, upd_at, Nat.reduceEqDiff, if_true, if_false, featPV] <;> rfl) ?_
        refine pops_to rfl fun M hM => ?_
        simp only [pop, St.eval, constSlot, upd_at, Nat.reduceEqDiff, if_true, if_false, popBin, binK, intK, strK, eqK, Tryz.underlying27, isPtr, eq_self, true_and, and_true, featPV]
        refine hM _ _ ?_
        clear hM M
        refine pops_mv (.inl rfl) rfl (by simp only [St.eval, upd_at, Nat.reduceEqDiff, if_true, if_false, featPV] <;> rfl) ?_
        apply pops_and0 6 66 72 [67, 68, 69, 70, 71] (by simp only [upd_at, Nat.reduceEqDiff, if_true, if_false, featPV] <;> rfl)
        ·skip
         intro g66_0 J80 hJ80
         simp only [List.take_succ_cons, List.take_zero]
         simp only [anyAt_cons, anyAt_nil] at hJ80
         refine pops_mvg (.inl rfl) rfl rfl (by simp only [upd_at, Nat.reduceEqDiff, if_true, if_false, featPV, g66_0]) (by simp only [St.eval, upd_at, Nat.reduceEqDiff, if_true, if_false, featPV, g66_0] <;> rfl) ?_
         refine pops_do rfl rfl (by simp only [upd_at, Nat.reduceEqDiff, if_true, if_false, featPV, g66_0]) fun M hM => ?_
         simp only [pop, St.eval, constSlot, upd_at, Nat.reduceEqDiff, if_true, if_false, eq_self, true_and, and_true, featPV, g66_0]
         refine newP_neq Tryz.underlying40 (hM _ _ ?_)
         clear hM M
         refine pops_mvg (.inl rfl) rfl rfl (by simp only [upd_at, Nat.reduceEqDiff, if_true, if_false, featPV, g66_0]) (by simp only [St.eval, upd_at, Nat.reduceEqDiff, if_true, if_false, featPV, g66_0] <;> rfl) ?_
         refine pops_do rfl rfl (by simp only [upd_at, Nat.reduceEqDiff, if_true, if_false, featPV, g66_0]) fun M hM => ?_
         simp only [pop, St.eval, constSlot, upd_at, Nat.reduceEqDiff, if_true, if_false, popBin, binK, intK, strK, eqK, Tryz.underlying27, isPtr, eq_self, true_and, and_true, featPV, g66_0]
         refine hM _ _ ?_
         clear hM M
         refine pops_do rfl rfl (by simp only [upd_at, Nat.reduceEqDiff, if_true, if_false, featPV, g66_0]) fun M hM => ?_
         simp only [pop, St.eval, constSlot, upd_at, Nat.reduceEqDiff, if_true, if_false, popBin, binK, intK, strK, eqK, Tryz.underlying4, isPtr, eq_self, true_and, and_true, featPV, g66_0]
         refine hM _ _ ?_
         clear hM M
         refine pops_to rfl fun M hM => ?_
         simp only [pop, St.eval, constSlot, upd_at, Nat.reduceEqDiff, if_true, if_false, popIf, true_implies, false_implies, Bool.true_eq_false, Bool.false_eq_true, reduceCtorEq, true_and, and_true, featPV, g66_0]
         refine hM _ _ ?_
         clear hM M
         exact pops_done (hJ80 _ (wk_same (wk_any ((wk_any ((wk_any ((wk_any ((wk_any (Wk.refl _ _))))))))))))
        ·skip
         intro g66_0 J80 hJ80
         simp only [List.take_succ_cons, List.take_zero]
         simp only [anyAt_cons, anyAt_nil] at hJ80
         refine pops_off (b := false) rfl rfl (by simp only [upd_at, Nat.reduceEqDiff, if_true, if_false, featPV, g66_0]) (by decide) ?_
         refine pops_off (b := false) rfl rfl (by simp only [upd_at, Nat.reduceEqDiff, if_true, if_false, featPV, g66_0]) (by decide) ?_
         refine pops_off (b := false) rfl rfl (by simp only [upd_at, Nat.reduceEqDiff, if_true, if_false, featPV, g66_0]) (by decide) ?_
         refine pops_off (b := false) rfl rfl (by simp only [upd_at, Nat.reduceEqDiff, if_true, if_false, featPV, g66_0]) (by decide) ?_
         refine pops_off (b := false) rfl rfl (by simp only [upd_at, Nat.reduceEqDiff, if_true, if_false, featPV, g66_0]) (by decide) ?_
         refine pops_to rfl fun M hM => ?_
         simp only [pop, St.eval, constSlot, upd_at, Nat.reduceEqDiff, if_true, if_false, popIf, true_implies, false_implies, Bool.true_eq_false, Bool.false_eq_true, reduceCtorEq, true_and, and_true, featPV, g66_0]
         refine hM _ _ ?_
         clear hM M
         exact pops_done (hJ80 _ (wk_same (wk_any ((wk_any ((wk_any ((wk_any ((wk_any (Wk.refl _ _))))))))))))
        simp only [List.drop_succ_cons, List.drop_zero, anyAt_cons, anyAt_nil]
        refine pops_mv (.inr rfl) rfl (by simp only [St.eval, upd_at, Nat.reduceEqDiff, if_true, if_false, featPV] <;> rfl) ?_
        refine pops_done (hR79 _ ?_)
        clear hR79 R79
        try simp only [thenK, scopeK]
        refine hN78 _ ?_
        clear hN78 N78
        refine pwp_ret ?_
        simp only [thenK, blockK, scopeK, bodyK]
        refine ⟨_, rfl, endFun s9 ?_⟩
        try simp only [upd_at, Nat.reduceEqDiff, if_true, if_false, featPV]
        all_goals
         first
           | rfl
           | (rw [hfin]; simp; done)
           | (exfalso; simp_all; done)
           | (simp; done)
    ·skip
     refine pwp_skip ?_
     try simp only [thenK, scopeK]
     refine hN25 _ ?_
     clear hN25 N25
     refine pwp_then fun N81 hN81 => ?_
     refine pwp_then fun N82 hN82 => ?_
     refine pwp_reg fun R83 hR83 => ?_
     refine pops_mv (.inl rfl) rfl (by simp only [St.eval, upd_at, Nat.reduceEqDiff, if_true, if_false, featPV] <;> rfl) ?_
     refine pops_to rfl fun M hM => ?_
     simp only [pop, St.eval, constSlot, upd_at, Nat.reduceEqDiff, if_true, if_false, unK, featPV]
     refine hM _ _ ?_
     clear hM M
     refine pops_done (hR83 _ ?_)
     clear hR83 R83
     try simp only [thenK, scopeK]
     refine hN82 _ ?_
     clear hN82 N82
     refine pwp_cond (by simp only [St.eval, upd_at, Nat.reduceEqDiff, if_true, if_false, featPV] <;> rfl) (fun c39 => ?_) (fun c39 => ?_)
     ·skip
      refine pwp_reg fun R84 hR84 => ?_
      refine pops_mv (.inr rfl) rfl (by simp only [St.eval, constSlot] <;> rfl) ?_
      refine pops_done (hR84 _ ?_)
      clear hR84 R84
      try simp only [thenK, scopeK]
      refine hN81 _ ?_
      clear hN81 N81
      refine pwp_then fun N85 hN85 => ?_
      refine pwp_block ?_
      refine pwp_then fun N86 hN86 => ?_
      refine pwp_reg fun R87 hR87 => ?_
      refine pops_mv (.inl rfl) rfl (by simp only [St.eval, upd_at, Nat.reduceEqDiff, if_true, if_false, featPV] <;> rfl) ?_
      refine pops_to rfl fun M hM => ?_
      simp only [pop, St.eval, constSlot, upd_at, Nat.reduceEqDiff, if_true, if_false, unK, featPV]
      refine hM _ _ ?_
      clear hM M
      refine pops_mv (.inl rfl) rfl (by simp only [St.eval, upd_at, Nat.reduceEqDiff, if_true, if_false, featPV] <;> rfl) ?_
      apply pops_or0 3 43 46 [44, 45] (by simp only [upd_at, Nat.reduceEqDiff, if_true, if_false, featPV] <;> rfl)
      ·skip
       intro g43_0 J88 hJ88
       simp only [List.take_succ_cons, List.take_zero]
       simp only [anyAt_cons, anyAt_nil] at hJ88
       refine pops_mvg (.inl rfl) rfl rfl (by simp only [upd_at, Nat.reduceEqDiff, if_true, if_false, featPV, g43_0]) (by simp only [St.eval, upd_at, Nat.reduceEqDiff, if_true, if_false, featPV, g43_0] <;> rfl) ?_
       refine pops_do rfl rfl (by simp only [upd_at, Nat.reduceEqDiff, if_true, if_false, featPV, g43_0]) fun M hM => ?_
       simp only [pop, St.eval, constSlot, upd_at, Nat.reduceEqDiff, if_true, if_false, unK, featPV, g43_0]
       refine hM _ _ ?_
       clear hM M
       refine pops_to rfl fun M hM => ?_
       simp only [pop, St.eval, constSlot, upd_at, Nat.reduceEqDiff, if_true, if_false, popIf, true_implies, false_implies, Bool.true_eq_false, Bool.false_eq_true, reduceCtorEq, true_and, and_true, featPV, g43_0]
       refine hM _ _ ?_
       clear hM M
       exact pops_done (hJ88 _ (wk_same (wk_any ((wk_any (Wk.refl _ _))))))
      ·skip
       intro g43_0 J88 hJ88
       simp only [List.take_succ_cons, List.take_zero]
       simp only [anyAt_cons, anyAt_nil] at hJ88
       refine pops_off (b := true) rfl rfl (by simp only [upd_at, Nat.reduceEqDiff, if_true, if_false, featPV, g43_0]) (by decide) ?_
       refine pops_off (b := true) rfl rfl (by simp only [upd_at, Nat.reduceEqDiff, if_true, if_false, featPV, g43_0]) (by decide) ?_
       refine pops_to rfl fun M hM => ?_
       simp only [pop, St.eval, constSlot, upd_at, Nat.reduceEqDiff, if_true, if_false, popIf, true_implies, false_implies, Bool.true_eq_false, Bool.false_eq_true, reduceCtorEq, true_and, and_true, featPV, g43_0]
       refine hM _ _ ?_
       clear hM M
       exact pops_done (hJ88 _ (wk_same (wk_any ((wk_any (Wk.refl _ _))))))
      simp only [List.drop_succ_cons, List.drop_zero, anyAt_cons, anyAt_nil]
      refine pops_mv (.inr rfl) rfl (by simp only [St.eval, upd_at, Nat.reduceEqDiff, if_true, if_false, featPV] <;> rfl) ?_
      refine pops_done (hR87 _ ?_)
      clear hR87 R87
      try simp only [thenK, scopeK]
      refine hN86 _ ?_
      clear hN86 N86
      refine pwp_cond (by simp only [St.eval, upd_at, Nat.reduceEqDiff, if_true, if_false, featPV] <;> rfl) (fun c40 => ?_) (fun c40 => ?_)
      ·skip
       refine pwp_reg fun R89 hR89 => ?_
       refine pops_mv (.inr rfl) rfl (by simp only [St.eval, constSlot] <;> rfl) ?_
       refine pops_done (hR89 _ ?_)
       clear hR89 R89
       try simp only [blockK, thenK, scopeK]
       try simp only [thenK, scopeK]
       refine hN85 _ ?_
       clear hN85 N85
       refine pwp_then fun N90 hN90 => ?_
       refine pwp_reg fun R91 hR91 => ?_
       refine pops_mv (.inl rfl) rfl (by simp only [St.eval, upd_at, Nat.reduceEqDiff, if_true, if_false, featPV] <;> rfl) ?_
       refine pops_mv (.inl rfl) rfl (by simp only [St.eval, upd_at, Nat.reduceEqDiff, if_true, if_false, featPV] <;> rfl) ?_
       refine pops_to rfl fun M hM => ?_
       simp only [pop, St.eval, constSlot, upd_at, Nat.reduceEqDiff, if_true, if_false, List.length_cons, List.length_nil, Nat.zero_add, Nat.reduceAdd, Nat.reduceLeDiff, List.take_zero, List.take_succ_cons, List.take_nil, List.drop_succ_cons, List.drop_zero, List.drop_nil, List.nil_append, List.cons_append, List.append_nil, and_self, List.getElem?_cons_zero, List.getElem?_cons_succ, List.set_cons_zero, List.set_cons_succ, Option.some.injEq, popLoad, loadK, isAggD, List.drop_zero, List.getElem?_toArray, List.getElem?_cons_zero, List.getElem?_cons_succ, Bool.false_eq_true, Tryz.underlying25, sz25, eq_self, true_and, and_true, featPV]
       refine hM _ _ ?_
       clear hM M
       refine pops_to rfl fun M hM => ?_
       simp only [pop, St.eval, constSlot, upd_at, Nat.reduceEqDiff, if_true, if_false, popCall, List.toList_toArray, List.map_cons, List.map_nil, svs, List.mapM_cons, List.mapM_nil, Option.bind_eq_bind, Option.bind_some, Option.pure_def, List.append_nil, List.cons_append, List.nil_append, str_size, featPV]
       first
         | refine PFun.use (newMnt_fun W0 x _ o) fun h9 s9 => hM _ _ ?_
         | refine PFun.use (newNilC_fun W0 x o) fun h9 s9 => hM _ _ ?_
         | refine PFun.use (newNilS_fun W0 _ o) fun h9 s9 => hM _ _ ?_
       replace s9 := Same.trans s6 s9
       clear hM M
       refine pops_mv (.inl rfl) rfl (by simp only [St.eval, upd_at, Nat.reduceEqDiff, if_true, if_false, featPV] <;> rfl) ?_
       refine pops_to rfl fun M hM => ?_
       simp only [pop, St.eval, constSlot, upd_at, Nat.reduceEqDiff, if_true, if_false, List.getElem?_toArray, List.getElem?_cons_zero, List.getElem?_cons_succ, featPV]
       refine hM _ _ ?_
       clear hM M
       refine pops_to rfl fun M hM => ?_
       simp only [pop, St.eval, constSlot, upd_at, Nat.reduceEqDiff, if_true, if_false, List.getElem?_toArray, List.getElem?_cons_zero, List.getElem?_cons_succ, featPV]
       refine hM _ _ ?_
       clear hM M
       refine pops_mv (.inr rfl) rfl (by simp only [St.eval, upd_at, Nat.reduceEqDiff, if_true, if_false, featPV] <;> rfl) ?_
       refine pops_mv (.inr rfl) rfl (by simp only [St.eval, upd_at, Nat.reduceEqDiff, if_true, if_false, featPV] <;> rfl) ?_
       refine pops_done (hR91 _ ?_)
       clear hR91 R91
       try simp only [thenK, scopeK]
       refine hN90 _ ?_
       clear hN90 N90
       refine pwp_then fun N92 hN92 => ?_
       refine pwp_reg fun R93 hR93 => ?_
       refine pops_mv (.inl rfl) rfl (by simp only [St.eval, upd_at, Nat.reduceEqDiff, if_true, if_false, featPV] <;> rfl) ?_
       refine pops_mv (.inl rfl) rfl (by simp only [St.eval, upd_at, Nat.reduceEqDiff, if_true, if_false, featPV] <;> rfl) ?_
       refine pops_to rfl fun M hM => ?_
       simp only [pop, St.eval, constSlot, upd_at, Nat.reduceEqDiff, if_true, if_false, popBin, binK, intK, strK, eqK, Tryz.underlying27, isPtr, eq_self, true_and, and_true, featPV]
       refine hM _ _ ?_
       clear hM M
       refine pops_mv (.inl rfl) rfl (by simp only [St.eval, upd_at, Nat.reduceEqDiff, if_true, if_false, featPV] <;> rfl) ?_
       apply pops_and0 6 66 72 [67, 68, 69, 70, 71] (by simp only [upd_at, Nat.reduceEqDiff, if_true, if_false, featPV] <;> rfl)
       ·skip
        intro g66_0 J94 hJ94
        simp only [List.take_succ_cons, List.take_zero]
        simp only [anyAt_cons, anyAt_nil] at hJ94
        refine pops_mvg (.inl rfl) rfl rfl (by simp only [upd_at, Nat.reduceEqDiff, if_true, if_false, featPV, g66_0]) (by simp only [St.eval, upd_at, Nat.reduceEqDiff, if_true, if_false, featPV, g66_0] <;> rfl) ?_
        refine pops_do rfl rfl (by simp only [upd_at, Nat.reduceEqDiff, if_true, if_false, featPV, g66_0]) fun M hM => ?_
        simp only [pop, St.eval, constSlot, upd_at, Nat.reduceEqDiff, if_true, if_false, eq_self, true_and, and_true, featPV, g66_0]
        refine newP_neq Tryz.underlying40 (hM _ _ ?_)
        clear hM M
        refine pops_mvg (.inl rfl) rfl rfl (by simp only [upd_at, Nat.reduceEqDiff, if_true, if_false, featPV, g66_0]) (by simp only [St.eval, upd_at, Nat.reduceEqDiff, if_true, if_false, featPV, g66_0] <;> rfl) ?_
        refine pops_do rfl rfl (by simp only [upd_at, Nat.reduceEqDiff, if_true, if_false, featPV, g66_0]) fun M hM => ?_
        simp only [pop, St.eval, constSlot, upd_at, Nat.reduceEqDiff, if_true, if_false, popBin, binK, intK, strK, eqK, Tryz.underlying27, isPtr, eq_self, true_and, and_true, featPV, g66_0]
        refine hM _ _ ?_
        clear hM M
        refine pops_do rfl rfl (by simp only [upd_at, Nat.reduceEqDiff, if_true, if_false, featPV, g66_0]) fun M hM => ?_
        simp only [pop, St.eval, constSlot, upd_at, Nat.reduceEqDiff, if_true, if_false, popBin, binK, intK, strK, eqK, Tryz.underlying4, isPtr, eq_self, true_and, and_true, featPV, g66_0]
        refine hM _ _ ?_
        clear hM M
        refine pops_to rfl fun M hM => ?_
        simp only [pop, St.eval, constSlot, upd_at, Nat.reduceEqDiff, if_true, if_false, popIf, true_implies, false_implies, Bool.true_eq_false, Bool.false_eq_true, reduceCtorEq, true_and, and_true, featPV, g66_0]
        refine hM _ _ ?_
        clear hM M
        exact pops_done (hJ94 _ (wk_same (wk_any ((wk_any ((wk_any ((wk_any ((wk_any (Wk.refl _ _))))))))))))
       ·skip
        intro g66_0 J94 hJ94
        simp only [List.take_succ_cons, List.take_zero]
        simp only [anyAt_cons, anyAt_nil] at hJ94
        refine pops_off (b := false) rfl rfl (by simp only [upd_at, Nat.reduceEqDiff, if_true, if_false, featPV, g66_0]) (by decide) ?_
        refine pops_off (b := false) rfl rfl (by simp only [upd_at, Nat.reduceEqDiff, if_true, if_false, featPV, g66_0]) (by decide) ?_
        refine pops_off (b := false) rfl rfl (by simp only [upd_at, Nat.reduceEqDiff, if_true, if_false, featPV, g66_0]) (by decide) ?_
        refine pops_off (b := false) rfl rfl (by simp only [upd_at, Nat.reduceEqDiff, if_true, if_false, featPV, g66_0]) (by decide) ?_
        refine pops_off (b := false) rfl rfl (by simp only [upd_at, Nat.reduceEqDiff, if_true, if_false, featPV, g66_0]) (by decide) ?_
        refine pops_to rfl fun M hM => ?_
        simp only [pop, St.eval, constSlot, upd_at, Nat.reduceEqDiff, if_true, if_false, popIf, true_implies, false_implies, Bool.true_eq_false, Bool.false_eq_true, reduceCtorEq, true_and, and_true, featPV, g66_0]
        refine hM _ _ ?_
        clear hM M
        exact pops_done (hJ94 _ (wk_same (wk_any ((wk_any ((wk_any ((wk_any ((wk_any (Wk.refl _ _))))))))))))
       simp only [List.drop_succ_cons, List.drop_zero, anyAt_cons, anyAt_nil]
       refine pops_mv (.inr rfl) rfl (by simp only [St.eval, upd_at, Nat.reduceEqDiff, if_true, if_false, featPV] <;> rfl) ?_
       refine pops_done (hR93 _ ?_)
       clear hR93 R93
       try simp only [thenK, scopeK]
       refine hN92 _ ?_
       clear hN92 N92
       refine pwp_ret ?_
       simp only [thenK, blockK, scopeK, bodyK]
       refine ⟨_, rfl, endFun s9 ?_⟩
       try simp only [upd_at, Nat.reduceEqDiff, if_true, if_false, featPV]
       all_goals
        first
          | rfl
          | (rw [hfin]; simp; done)
          | (exfalso; simp_all; done)
          | (simp; done)
      ·skip
       refine pwp_then fun N95 hN95 => ?_
       refine pwp_reg fun R96 hR96 => ?_
       refine pops_mv (.inl rfl) rfl (by simp only [St.eval, upd_at, Nat.reduceEqDiff, if_true, if_false, featPV] <;> rfl) ?_
       refine pops_to rfl fun M hM => ?_
       simp only [pop, St.eval, constSlot, upd_at, Nat.reduceEqDiff, if_true, if_false, popBin, binK, intK, strK, eqK, Tryz.underlying27, isPtr, eq_self, true_and, and_true, featPV]
       refine hM _ _ ?_
       clear hM M
       refine pops_mv (.inl rfl) rfl (by simp only [St.eval, upd_at, Nat.reduceEqDiff, if_true, if_false, featPV] <;> rfl) ?_
       apply pops_and0 5 50 55 [51, 52, 53, 54] (by simp only [upd_at, Nat.reduceEqDiff, if_true, if_false, featPV] <;> rfl)
       ·skip
        intro g50_0 J97 hJ97
        simp only [List.take_succ_cons, List.take_zero]
        simp only [anyAt_cons, anyAt_nil] at hJ97
        refine pops_do rfl rfl (by simp only [upd_at, Nat.reduceEqDiff, if_true, if_false, featPV, g50_0]) fun M hM => ?_
        simp only [pop, St.eval, constSlot, upd_at, Nat.reduceEqDiff, if_true, if_false, popFieldAddr, fieldOf, List.drop_succ_cons, List.drop_zero, List.getElem?_toArray, List.getElem?_cons_zero, List.getElem?_cons_succ, Tryz.underlying23, sz3, featPV, g50_0]
        refine ⟨⟨_, rfl⟩, hM _ _ ?_⟩
        clear hM M
        refine pops_do rfl rfl (by simp only [upd_at, Nat.reduceEqDiff, if_true, if_false, featPV, g50_0]) fun M hM => ?_
        simp only [pop, St.eval, constSlot, upd_at, Nat.reduceEqDiff, if_true, if_false, popLoad, loadK, isAggD, List.drop_zero, List.getElem?_toArray, List.getElem?_cons_zero, List.getElem?_cons_succ, Bool.false_eq_true, Tryz.underlying3, sz3, eq_self, true_and, and_true, featPV, g50_0]
        refine hM _ _ ?_
        clear hM M
        refine pops_do rfl rfl (by simp only [upd_at, Nat.reduceEqDiff, if_true, if_false, featPV, g50_0]) fun M hM => ?_
        simp only [pop, St.eval, constSlot, upd_at, Nat.reduceEqDiff, if_true, if_false, popBin, binK, intK, strK, eqK, eq_self, true_and, and_true, featPV, g50_0]
        refine hM _ _ ?_
        clear hM M
        refine pops_do rfl rfl (by simp only [upd_at, Nat.reduceEqDiff, if_true, if_false, featPV, g50_0]) fun M hM => ?_
        simp only [pop, St.eval, constSlot, upd_at, Nat.reduceEqDiff, if_true, if_false, popBin, binK, intK, strK, eqK, Tryz.underlying3, isPtr, eq_self, true_and, and_true, featPV, g50_0]
        refine hM _ _ ?_
        clear hM M
        refine pops_to rfl fun M hM => ?_
        simp only [pop, St.eval, constSlot, upd_at, Nat.reduceEqDiff, if_true, if_false, popIf, true_implies, false_implies, Bool.true_eq_false, Bool.false_eq_true, reduceCtorEq, true_and, and_true, featPV, g50_0]
        refine hM _ _ ?_
        clear hM M
        exact pops_done (hJ97 _ (wk_same (wk_any ((wk_any ((wk_any ((wk_any (Wk.refl _ _))))))))))
       ·skip
        intro g50_0 J97 hJ97
        simp only [List.take_succ_cons, List.take_zero]
        simp only [anyAt_cons, anyAt_nil] at hJ97
        refine pops_off (b := false) rfl rfl (by simp only [upd_at, Nat.reduceEqDiff, if_true, if_false, featPV, g50_0]) (by decide) ?_
        refine pops_off (b := false) rfl rfl (by simp only [upd_at, Nat.reduceEqDiff, if_true, if_false, featPV, g50_0]) (by decide) ?_
        refine pops_off (b := false) rfl rfl (by simp only [upd_at, Nat.reduceEqDiff, if_true, if_false, featPV, g50_0]) (by decide) ?_
        refine pops_off (b := false) rfl rfl (by simp only [upd_at, Nat.reduceEqDiff, if_true, if_false, featPV, g50_0]) (by decide) ?_
        refine pops_to rfl fun M hM => ?_
        simp only [pop, St.eval, constSlot, upd_at, Nat.reduceEqDiff, if_true, if_false, popIf, true_implies, false_implies, Bool.true_eq_false, Bool.false_eq_true, reduceCtorEq, true_and, and_true, featPV, g50_0]
        refine hM _ _ ?_
        clear hM M
        exact pops_done (hJ97 _ (wk_same (wk_any ((wk_any ((wk_any ((wk_any (Wk.refl _ _))))))))))
       simp only [List.drop_succ_cons, List.drop_zero, anyAt_cons, anyAt_nil]
       refine pops_mv (.inr rfl) rfl (by simp only [St.eval, upd_at, Nat.reduceEqDiff, if_true, if_false, featPV] <;> rfl) ?_
       refine pops_done (hR96 _ ?_)
       clear hR96 R96
       try simp only [thenK, scopeK]
       refine hN95 _ ?_
       clear hN95 N95
       refine pwp_cond (by simp only [St.eval, upd_at, Nat.reduceEqDiff, if_true, if_false, featPV] <;> rfl) (fun c47 => ?_) (fun c47 => ?_)
       ·skip
        have hfin := mnt_12 (x := x) c47
        refine pwp_reg fun R98 hR98 => ?_
        refine pops_mv (.inr rfl) rfl (by simp only [St.eval, constSlot] <;> rfl) ?_
        refine pops_done (hR98 _ ?_)
        clear hR98 R98
        try simp only [blockK, thenK, scopeK]
        try simp only [thenK, scopeK]
        refine hN85 _ ?_
        clear hN85 N85
        refine pwp_then fun N99 hN99 => ?_
        refine pwp_reg fun R100 hR100 => ?_
        refine pops_mv (.inl rfl) rfl (by simp only [St.eval, upd_at, Nat.reduceEqDiff, if_true, if_false, featPV] <;> rfl) ?_
        refine pops_mv (.inl rfl) rfl (by simp only [St.eval, upd_at, Nat.reduceEqDiff, if_true, if_false, featPV] <;> rfl) ?_
        refine pops_to rfl fun M hM => ?_
        simp only [pop, St.eval, constSlot, upd_at, Nat.reduceEqDiff, if_true, if_false, List.length_cons, List.length_nil, Nat.zero_add, Nat.reduceAdd, Nat.reduceLeDiff, List.take_zero, List.take_succ_cons, List.take_nil, List.drop_succ_cons, List.drop_zero, List.drop_nil, List.nil_append, List.cons_append, List.append_nil, and_self, List.getElem?_cons_zero, List.getElem?_cons_succ, List.set_cons_zero, List.set_cons_succ, Option.some.injEq, popLoad, loadK, isAggD, List.drop_zero, List.getElem?_toArray, List.getElem?_cons_zero, List.getElem?_cons_succ, Bool.false_eq_true, Tryz.underlying25, sz25, eq_self, true_and, and_true, featPV]
        refine hM _ _ ?_
        clear hM M
        refine pops_to rfl fun M hM => ?_
        simp only [pop, St.eval, constSlot, upd_at, Nat.reduceEqDiff, if_true, if_false, popCall, List.toList_toArray, List.map_cons, List.map_nil, svs, List.mapM_cons, List.mapM_nil, Option.bind_eq_bind, Option.bind_some, Option.pure_def, List.append_nil, List.cons_append, List.nil_append, str_size, featPV]
        first
          | refine PFun.use (newMnt_fun W0 x _ o) fun h9 s9 => hM _ _ ?_
          | refine PFun.use (newNilC_fun W0 x o) fun h9 s9 => hM _ _ ?_
          | refine PFun.use (newNilS_fun W0 _ o) fun h9 s9 => hM _ _ ?_
        replace s9 := Same.trans s6 s9
        clear hM M
        refine pops_mv (.inl rfl) rfl (by simp only [St.eval, upd_at, Nat.reduceEqDiff, if_true, if_false, featPV] <;> rfl) ?_
        refine pops_to rfl fun M hM => ?_
        simp only [pop, St.eval, constSlot, upd_at, Nat.reduceEqDiff, if_true, if_false, List.getElem?_toArray, List.getElem?_cons_zero, List.getElem?_cons_succ, featPV]
        refine hM _ _ ?_
        clear hM M
        refine pops_to rfl fun M hM => ?_
        simp only [pop, St.eval, constSlot, upd_at, Nat.reduceEqDiff, if_true, if_false, List.getElem?_toArray, List.getElem?_cons_zero, List.getElem?_cons_succ, featPV]
        refine hM _ _ ?_
        clear hM M
        refine pops_mv (.inr rfl) rfl (by simp only [St.eval, upd_at, Nat.reduceEqDiff, if_true, if_false, featPV] <;> rfl) ?_
        refine pops_mv (.inr rfl) rfl (by simp only [St.eval, upd_at, Nat.reduceEqDiff, if_true, if_false, featPV] <;> rfl) ?_
        refine pops_done (hR100 _ ?_)
        clear hR100 R100
        try simp only [thenK, scopeK]
        refine hN99 _ ?_
        clear hN99 N99
        refine pwp_then fun N101 hN101 => ?_
        refine pwp_reg fun R102 hR102 => ?_
        refine pops_mv (.inl rfl) rfl (by simp only [St.eval, upd_at, Nat.reduceEqDiff, if_true, if_false, featPV] <;> rfl) ?_
        refine pops_mv (.inl rfl) rfl (by simp only [St.eval, upd_at, Nat.reduceEqDiff, if_true, if_false, featPV] <;> rfl) ?_
        refine pops_to rfl fun M hM => ?_
        simp only [pop, St.eval, constSlot, upd_at, Nat.reduceEqDiff, if_true, if_false, popBin, binK, intK, strK, eqK, Tryz.underlying27, isPtr, eq_self, true_and, and_true, featPV]
        refine hM _ _ ?_
        clear hM M
        refine pops_mv (.inl rfl) rfl (by simp only [St.eval, upd_at, Nat.reduceEqDiff, if_true, if_false, featPV] <;> rfl) ?_
        apply pops_and0 6 66 72 [67, 68, 69, 70, 71] (by simp only [upd_at, Nat.reduceEqDiff, if_true, if_false, featPV] <;> rfl)
        ·skip
         intro g66_0 J103 hJ103
         simp only [List.take_succ_cons, List.take_zero]
         simp only [anyAt_cons, anyAt_nil] at hJ103
         refine pops_mvg (.inl rfl) rfl rfl (by simp only [upd_at, Nat.reduceEqDiff, if_true, if_false, featPV, g66_0]) (by simp only [St.eval, upd_at, Nat.reduceEqDiff, if_true, if_false, featPV, g66_0] <;> rfl) ?_
         refine pops_do rfl rfl (by simp only [upd_at, Nat.reduceEqDiff, if_true, if_false, featPV, g66_0]) fun M hM => ?_
         simp only [pop, St.eval, constSlot, upd_at, Nat.reduceEqDiff, if_true, if_false, eq_self, true_and, and_true, featPV, g66_0]
         refine newP_neq Tryz.underlying40 (hM _ _ ?_)
         clear hM M
         refine pops_mvg (.inl rfl) rfl rfl (by simp only [upd_at, Nat.reduceEqDiff, if_true, if_false, featPV, g66_0]) (by simp only [St.eval, upd_at, Nat.reduceEqDiff, if_true, if_false, featPV, g66_0] <;> rfl) ?_
         refine pops_do rfl rfl (by simp only [upd_at, Nat.reduceEqDiff, if_true, if_false, featPV, g66_0]) fun M hM => ?_
         simp only [pop, St.eval, constSlot, upd_at, Nat.reduceEqDiff, if_true, if_false, popBin, binK, intK, strK, eqK, Tryz.underlying27, isPtr, eq_self, true_and, and_true, featPV, g66_0]
         refine hM _ _ ?_
         clear hM M
         refine pops_do rfl rfl (by simp only [upd_at, Nat.reduceEqDiff, if_true, if_false, featPV, g66_0]) fun M hM => ?_
         simp only [pop, St.eval, constSlot, upd_at, Nat.reduceEqDiff, if_true, if_false, popBin, binK, intK, strK, eqK, Tryz.underlying4, isPtr, eq_self, true_and, and_true, featPV, g66_0]
         refine hM _ _ ?_
         clear hM M
         refine pops_to rfl fun M hM => ?_
         simp only [pop, St.eval, constSlot, upd_at, Nat.reduceEqDiff, if_true, if_false, popIf, true_implies, false_implies, Bool.true_eq_false, Bool.false_eq_true, reduceCtorEq, true_and, and_true, featPV, g66_0]
         refine hM _ _ ?_
         clear hM M
         exact pops_done (hJ103 _ (wk_same (wk_any ((wk_any ((wk_any ((wk_any ((wk_any (Wk.refl _ _))))))))))))
        ·skip
         intro g66_0 J103 hJ103
         simp only [List.take_succ_cons, List.take_zero]
         simp only [anyAt_cons, anyAt_nil] at hJ103
         refine pops_off (b := false) rfl rfl (by simp only [upd_at, Nat.reduceEqDiff, if_true, if_false, featPV, g66_0]) (by decide) ?_
         refine pops_off (b := false) rfl rfl (by simp only [upd_at, Nat.reduceEqDiff, if_true, if_false, featPV, g66_0]) (by decide) ?_
         refine pops_off (b := false) rfl rfl (by simp only [upd_at, Nat.reduceEqDiff, if_true, if_false, featPV, g66_0]) (by decide) ?_
         refine pops_off (b := false) rfl rfl (by simp only [upd_at, Nat.reduceEqDiff, if_true, if_false, featPV, g66_0]) (by decide) ?_
         refine pops_off (b := false) rfl rfl (by simp only [upd_at, Nat.reduceEqDiff, if_true, if_false, featPV, g66_0]) (by decide) ?_
         refine pops_to rfl fun M hM => ?_
         simp only [pop, St.eval, constSlot, upd_at, Nat.reduceEqDiff, if_true, if_false, popIf, true_implies, false_implies, Bool.true_eq_false, Bool.false_eq_true, reduceCtorEq, true_and, and_true, featPV, g66_0]
         refine hM _ _ ?_
         clear hM M
         exact pops_done (hJ103 _ (wk_same (wk_any ((wk_any ((wk_any ((wk_any ((wk_any (Wk.refl _ _))))))))))))
        simp only [List.drop_succ_cons, List.drop_zero, anyAt_cons, anyAt_nil]
        refine pops_mv (.inr rfl) rfl (by simp only [St.eval, upd_at, Nat.reduceEqDiff, if_true, if_false, featPV] <;> rfl) ?_
        refine pops_done (hR102 _ ?_)
        clear hR102 R102
        try simp only [thenK, scopeK]
        refine hN101 _ ?_
        clear hN101 N101
        refine pwp_ret ?_
        simp only [thenK, blockK, scopeK, bodyK]
        refine ⟨_, rfl, endFun s9 ?_⟩
        try simp only [upd_at, Nat.reduceEqDiff, if_true, if_false, featPV]
        all_goals
         first
           | rfl
           | (rw [hfin]; simp; done)
           | (exfalso; simp_all; done)
           | (simp; done)
       ·skip
        have hfin := mnt_fin (x := x) c47
        refine pwp_skip ?_
        try simp only [blockK, thenK, scopeK]
        try simp only [thenK, scopeK]
        refine hN85 _ ?_
        clear hN85 N85
        refine pwp_then fun N104 hN104 => ?_
        refine pwp_reg fun R105 hR105 => ?_
        refine pops_mv (.inl rfl) rfl (by simp only [St.eval, upd_at, Nat.reduceEqDiff, if_true, if_false, featPV] <;> rfl) ?_
        refine pops_mv (.inl rfl) rfl (by simp only [St.eval, upd_at, Nat.reduceEqDiff, if_true, if_false, featPV] <;> rfl) ?_
        refine pops_to rfl fun M hM => ?_
        simp only [pop, St.eval, constSlot, upd_at, Nat.reduceEqDiff, if_true, if_false, List.length_cons, List.length_nil, Nat.zero_add, Nat.reduceAdd, Nat.reduceLeDiff, List.take_zero, List.take_succ_cons, List.take_nil, List.drop_succ_cons, List.drop_zero, List.drop_nil, List.nil_append, List.cons_append, List.append_nil, and_self, List.getElem?_cons_zero, List.getElem?_cons_succ, List.set_cons_zero, List.set_cons_succ, Option.some.injEq, popLoad, loadK, isAggD, List.drop_zero, List.getElem?_toArray, List.getElem?_cons_zero, List.getElem?_cons_succ, Bool.false_eq_true, Tryz.underlying25, sz25, eq_self, true_and, and_true, featPV]
        refine hM _ _ ?_
        clear hM M
        refine pops_to rfl fun M hM => ?_
        simp only [pop, St.eval, constSlot, upd_at, Nat.reduceEqDiff, if_true, if_false, popCall, List.toList_toArray, List.map_cons, List.map_nil, svs, List.mapM_cons, List.mapM_nil, Option.bind_eq_bind, Option.bind_some, Option.pure_def, List.append_nil, List.cons_append, List.nil_append, str_size, featPV]
        first
          | refine PFun.use (newMnt_fun W0 x _ o) fun h9 s9 => hM _ _ ?_
          | refine PFun.use (newNilC_fun W0 x o) fun h9 s9 => hM _ _ ?_
          | refine PFun.use (newNilS_fun W0 _ o) fun h9 s9 => hM _ _ ?_
        replace s9 := Same.trans s6 s9
        clear hM M
        refine pops_mv (.inl rfl) rfl (by simp only [St.eval, upd_at, Nat.reduceEqDiff, if_true, if_false, featPV] <;> rfl) ?_
        refine pops_to rfl fun M hM => ?_
        simp only [pop, St.eval, constSlot, upd_at, Nat.reduceEqDiff, if_true, if_false, List.getElem?_toArray, List.getElem?_cons_zero, List.getElem?_cons_succ, featPV]
        refine hM _ _ ?_
        clear hM M
        refine pops_to rfl fun M hM => ?_
        simp only [pop, St.eval, constSlot, upd_at, Nat.reduceEqDiff, if_true, if_false, List.getElem?_toArray, List.getElem?_cons_zero, List.getElem?_cons_succ, featPV]
        refine hM _ _ ?_
        clear hM M
        refine pops_mv (.inr rfl) rfl (by simp only [St.eval, upd_at, Nat.reduceEqDiff, if_true, if_false, featPV] <;> rfl) ?_
        refine pops_mv (.inr rfl) rfl (by simp only [St.eval, upd_at, Nat.reduceEqDiff, if_true, if_false, featPV] <;> rfl) ?_
        refine pops_done (hR105 _ ?_)
        clear hR105 R105
        try simp only [thenK, scopeK]
        refine hN104 _ ?_
        clear hN104 N104
        refine pwp_then fun N106 hN106 => ?_
        refine pwp_reg fun R107 hR107 => ?_
        refine pops_mv (.inl rfl) rfl (by simp only [St.eval, upd_at, Nat.reduceEqDiff, if_true, if_false, featPV] <;> rfl) ?_
        refine pops_mv (.inl rfl) rfl (by simp only [St.eval, upd_at, Nat.reduceEqDiff, if_true, if_false, featPV] <;> rfl) ?_
        refine pops_to rfl fun M hM => ?_
        simp only [pop, St.eval, constSlot, upd_at, Nat.reduceEqDiff, if_true, if_false, popBin, binK, intK, strK, eqK, Tryz.underlying27, isPtr, eq_self, true_and, and_true, featPV]
        refine hM _ _ ?_
        clear hM M
        refine pops_mv (.inl rfl) rfl (by simp only [St.eval, upd_at, Nat.reduceEqDiff, if_true, if_false, featPV] <;> rfl) ?_
        apply pops_and0 6 66 72 [67, 68, 69, 70, 71] (by simp only [upd_at, Nat.reduceEqDiff, if_true, if_false, featPV] <;> rfl)
        ·skip
         intro g66_0 J108 hJ108
         simp only [List.take_succ_cons, List.take_zero]
         simp only [anyAt_cons, anyAt_nil] at hJ108
         refine pops_mvg (.inl rfl) rfl rfl (by simp only [upd_at, Nat.reduceEqDiff, if_true, if_false, featPV, g66_0]) (by simp only [St.eval, upd_at, Nat.reduceEqDiff, if_true, if_false, featPV, g66_0] <;> rfl) ?_
         refine pops_do rfl rfl (by simp only [upd_at, Nat.reduceEqDiff, if_true, if_false, featPV, g66_0]) fun M hM => ?_
         simp only [pop, St.eval, constSlot, upd_at, Nat.reduceEqDiff, if_true, if_false, eq_self, true_and, and_true, featPV, g66_0]
         refine newP_neq Tryz.underlying40 (hM _ _ ?_)
         clear hM M
         refine pops_mvg (.inl rfl) rfl rfl (by simp only [upd_at, Nat.reduceEqDiff, if_true, if_false, featPV, g66_0]) (by simp only [St.eval, upd_at, Nat.reduceEqDiff, if_true, if_false, featPV, g66_0] <;> rfl) ?_
         refine pops_do rfl rfl (by simp only [upd_at, Nat.reduceEqDiff, if_true, if_false, featPV, g66_0]) fun M hM => ?_
         simp only [pop, St.eval, constSlot, upd_at, Nat.reduceEqDiff, if_true, if_false, popBin, binK, intK, strK, eqK, Tryz.underlying27, isPtr, eq_self, true_and, and_true, featPV, g66_0]
         refine hM _ _ ?_
         clear hM M
         refine pops_do rfl rfl (by simp only [upd_at, Nat.reduceEqDiff, if_true, if_false, featPV, g66_0]) fun M hM => ?_
         simp only [pop, St.eval, constSlot, upd_at, Nat.reduceEqDiff, if_true, if_false, popBin, binK, intK, strK, eqK, Tryz.underlying4, isPtr, eq_self, true_and, and_true, featPV, g66_0]
         refine hM _ _ ?_
         clear hM M
         refine pops_to rfl fun M hM => ?_
         simp only [pop, St.eval, constSlot, upd_at, Nat.reduceEqDiff, if_true, if_false, popIf, true_implies, false_implies, Bool.true_eq_false, Bool.false_eq_true, reduceCtorEq, true_and, and_true, featPV, g66_0]
         refine hM _ _ ?_
         clear hM M
         exact pops_done (hJ108 _ (wk_same (wk_any ((wk_any ((wk_any ((wk_any ((wk_any (Wk.refl _ _))))))))))))
        ·skip
         intro g66_0 J108 hJ108
         simp only [List.take_succ_cons, List.take_zero]
         simp only [anyAt_cons, anyAt_nil] at hJ108
         refine pops_off (b := false) rfl rfl (by simp only [upd_at, Nat.reduceEqDiff, if_true, if_false, featPV, g66_0]) (by decide) ?_
         refine pops_off (b := false) rfl rfl (by simp only [upd_at, Nat.reduceEqDiff, if_true, if_false, featPV, g66_0]) (by decide) ?_
         refine pops_off (b := false) rfl rfl (by simp only [upd_at, Nat.reduceEqDiff, if_true, if_false, featPV, g66_0]) (by decide) ?_
         refine pops_off (b := false) rfl rfl (by simp only [upd_at, Nat.reduceEqDiff, if_true, if_false, featPV, g66_0]) (by decide) ?_
         refine pops_off (b := false) rfl rfl (by simp only [upd_at, Nat.reduceEqDiff, if_true, if_false, featPV, g66_0]) (by decide) ?_
         refine pops_to rfl fun M hM => ?_
         simp only [pop, St.eval, constSlot, upd_at, Nat.reduceEqDiff, if_true, if_false, popIf, true_implies, false_implies, Bool.true_eq_false, Bool.false_eq_true, reduceCtorEq, true_and, and_true, featPV, g66_0]
         refine hM _ _ ?_
         clear hM M
         exact pops_done (hJ108 _ (wk_same (wk_any ((wk_any ((wk_any ((wk_any ((wk_any (Wk.refl _ _))))))))))))
        simp only [List.drop_succ_cons, List.drop_zero, anyAt_cons, anyAt_nil]
        refine pops_mv (.inr rfl) rfl (by simp only [St.eval, upd_at, Nat.reduceEqDiff, if_true, if_false, featPV] <;> rfl) ?_
        refine pops_done (hR107 _ ?_)
        clear hR107 R107
        try simp only [thenK, scopeK]
        refine hN106 _ ?_
        clear hN106 N106
        refine pwp_ret ?_
        simp only [thenK, blockK, scopeK, bodyK]
        refine ⟨_, rfl, endFun s9 ?_⟩
        try simp only [upd_at, Nat.reduceEqDiff, if_true, if_false, featPV]
        all_goals
         first
           | rfl
           | (rw [hfin]; simp; done)
           | (exfalso; simp_all; done)
           | (simp; done)
     ·skip
      refine pwp_skip ?_
      try simp only [thenK, scopeK]
      refine hN81 _ ?_
      clear hN81 N81
      refine pwp_then fun N109 hN109 => ?_
      refine pwp_block ?_
      refine pwp_then fun N110 hN110 => ?_
      refine pwp_reg fun R111 hR111 => ?_
      refine pops_mv (.inl rfl) rfl (by simp only [St.eval, upd_at, Nat.reduceEqDiff, if_true, if_false, featPV] <;> rfl) ?_
      refine pops_to rfl fun M hM => ?_
      simp only [pop, St.eval, constSlot, upd_at, Nat.reduceEqDiff, if_true, if_false, unK, featPV]
      refine hM _ _ ?_
      clear hM M
      refine pops_mv (.inl rfl) rfl (by simp only [St.eval, upd_at, Nat.reduceEqDiff, if_true, if_false, featPV] <;> rfl) ?_
      apply pops_or0 3 43 46 [44, 45] (by simp only [upd_at, Nat.reduceEqDiff, if_true, if_false, featPV] <;> rfl)
      ·skip
       intro g43_0 J112 hJ112
       simp only [List.take_succ_cons, List.take_zero]
       simp only [anyAt_cons, anyAt_nil] at hJ112
       refine pops_mvg (.inl rfl) rfl rfl (by simp only [upd_at, Nat.reduceEqDiff, if_true, if_false, featPV, g43_0]) (by simp only [St.eval, upd_at, Nat.reduceEqDiff, if_true, if_false, featPV, g43_0] <;> rfl) ?_
       refine pops_do rfl rfl (by simp only [upd_at, Nat.reduceEqDiff, if_true, if_false, featPV, g43_0]) fun M hM => ?_
       simp only [pop, St.eval, constSlot, upd_at, Nat.reduceEqDiff, if_true, if_false, unK, featPV, g43_0]
       refine hM _ _ ?_
       clear hM M
       refine pops_to rfl fun M hM => ?_
       simp only [pop, St.eval, constSlot, upd_at, Nat.reduceEqDiff, if_true, if_false, popIf, true_implies, false_implies, Bool.true_eq_false, Bool.false_eq_true, reduceCtorEq, true_and, and_true, featPV, g43_0]
       refine hM _ _ ?_
       clear hM M
       exact pops_done (hJ112 _ (wk_same (wk_any ((wk_any (Wk.refl _ _))))))
      ·skip
       intro g43_0 J112 hJ112
       simp only [List.take_succ_cons, List.take_zero]
       simp only [anyAt_cons, anyAt_nil] at hJ112
       refine pops_off (b := true) rfl rfl (by simp only [upd_at, Nat.reduceEqDiff, if_true, if_false, featPV, g43_0]) (by decide) ?_
       refine pops_off (b := true) rfl rfl (by simp only [upd_at, Nat.reduceEqDiff, if_true, if_false, featPV, g43_0]) (by decide) ?_
       refine pops_to rfl fun M hM => ?_
       simp only [pop, St.eval, constSlot, upd_at, Nat.reduceEqDiff, if_true, if_false, popIf, true_implies, false_implies, Bool.true_eq_false, Bool.false_eq_true, reduceCtorEq, true_and, and_true, featPV, g43_0]
       refine hM _ _ ?_
       clear hM M
       exact pops_done (hJ112 _ (wk_same (wk_any ((wk_any (Wk.refl _ _))))))
      simp only [List.drop_succ_cons, List.drop_zero, anyAt_cons, anyAt_nil]
      refine pops_mv (.inr rfl) rfl (by simp only [St.eval, upd_at, Nat.reduceEqDiff, if_true, if_false, featPV] <;> rfl) ?_
      refine pops_done (hR111 _ ?_)
      clear hR111 R111
      try simp only [thenK, scopeK]
      refine hN110 _ ?_
      clear hN110 N110
      refine pwp_cond (by simp only [St.eval, upd_at, Nat.reduceEqDiff, if_true, if_false, featPV] <;> rfl) (fun c40 => ?_) (fun c40 => ?_)
      ·skip
       refine pwp_reg fun R113 hR113 => ?_
       refine pops_mv (.inr rfl) rfl (by simp only [St.eval, constSlot] <;> rfl) ?_
       refine pops_done (hR113 _ ?_)
       clear hR113 R113
       try simp only [blockK, thenK, scopeK]
       try simp only [thenK, scopeK]
       refine hN109 _ ?_
       clear hN109 N109
       refine pwp_then fun N114 hN114 => ?_
       refine pwp_reg fun R115 hR115 => ?_
       refine pops_mv (.inl rfl) rfl (by simp only [St.eval, upd_at, Nat.reduceEqDiff, if_true, if_false, featPV] <;> rfl) ?_
       refine pops_mv (.inl rfl) rfl (by simp only [St.eval, upd_at, Nat.reduceEqDiff, if_true, if_false, featPV] <;> rfl) ?_
       refine pops_to rfl fun M hM => ?_
       simp only [pop, St.eval, constSlot, upd_at, Nat.reduceEqDiff, if_true, if_false, List.length_cons, List.length_nil, Nat.zero_add, Nat.reduceAdd, Nat.reduceLeDiff, List.take_zero, List.take_succ_cons, List.take_nil, List.drop_succ_cons, List.drop_zero, List.drop_nil, List.nil_append, List.cons_append, List.append_nil, and_self, List.getElem?_cons_zero, List.getElem?_cons_succ, List.set_cons_zero, List.set_cons_succ, Option.some.injEq, popLoad, loadK, isAggD, List.drop_zero, List.getElem?_toArray, List.getElem?_cons_zero, List.getElem?_cons_succ, Bool.false_eq_true, Tryz.underlying25, sz25, eq_self, true_and, and_true, featPV]
       refine hM _ _ ?_
       clear hM M
       refine pops_to rfl fun M hM => ?_
       simp only [pop, St.eval, constSlot, upd_at, Nat.reduceEqDiff, if_true, if_false, popCall, List.toList_toArray, List.map_cons, List.map_nil, svs, List.mapM_cons, List.mapM_nil, Option.bind_eq_bind, Option.bind_some, Option.pure_def, List.append_nil, List.cons_append, List.nil_append, str_size, featPV]
       first
         | refine PFun.use (newMnt_fun W0 x _ o) fun h9 s9 => hM _ _ ?_
         | refine PFun.use (newNilC_fun W0 x o) fun h9 s9 => hM _ _ ?_
         | refine PFun.use (newNilS_fun W0 _ o) fun h9 s9 => hM _ _ ?_
       replace s9 := Same.trans s6 s9
       clear hM M
       refine pops_mv (.inl rfl) rfl (by simp only [St.eval, upd_at, Nat.reduceEqDiff, if_true, if_false, featPV] <;> rfl) ?_
       refine pops_to rfl fun M hM => ?_
       simp only [pop, St.eval, constSlot, upd_at, Nat.reduceEqDiff, if_true, if_false, List.getElem?_toArray, List.getElem?_cons_zero, List.getElem?_cons_succ, featPV]
       refine hM _ _ ?_
       clear hM M
       refine pops_to rfl fun M hM => ?_
       simp only [pop, St.eval, constSlot, upd_at, Nat.reduceEqDiff, if_true, if_false, List.getElem?_toArray, List.getElem?_cons_zero, List.getElem?_cons_succ, featPV]
       refine hM _ _ ?_
       clear hM M
       refine pops_mv (.inr rfl) rfl (by simp only [St.eval, upd_at, Nat.reduceEqDiff, if_true, if_false, featPV] <;> rfl) ?_
       refine pops_mv (.inr rfl) rfl (by simp only [St.eval, upd_at, Nat.reduceEqDiff, if_true, if_false, featPV] <;> rfl) ?_
       refine pops_done (hR115 _ ?_)
       clear hR115 R115
       try simp only [thenK, scopeK]
       refine hN114 _ ?_
       clear hN114 N114
       refine pwp_then fun N116 hN116 => ?_
       refine pwp_reg fun R117 hR117 => ?_
       refine pops_mv (.inl rfl) rfl (by simp only [St.eval, upd_at, Nat.reduceEqDiff, if_true, if_false, featPV] <;> rfl) ?_
       refine pops_mv (.inl rfl) rfl (by simp only [St.eval, upd_at, Nat.reduceEqDiff, if_true, if_false, featPV] <;> rfl) ?_
       refine pops_to rfl fun M hM => ?_
       simp only [pop, St.eval, constSlot, upd_at, Nat.reduceEqDiff, if_true, if_false, popBin, binK, intK, strK, eqK, Tryz.underlying27, isPtr, eq_self, true_and, and_true, featPV]
       refine hM _ _ ?_
       clear hM M
       refine pops_mv (.inl rfl) rfl (by simp only [St.eval, upd_at, Nat.reduceEqDiff, if_true, if_false, featPV] <;> rfl) ?_
       apply pops_and0 6 66 72 [67, 68, 69, 70, 71] (by simp only [upd_at, Nat.reduceEqDiff, if_true, if_false, featPV] <;> rfl)
       ·skip
        intro g66_0 J118 hJ118
        simp only [List.take_succ_cons, List.take_zero]
        simp only [anyAt_cons, anyAt_nil] at hJ118
        refine pops_mvg (.inl rfl) rfl rfl (by simp only [upd_at, Nat.reduceEqDiff, if_true, if_false, featPV, g66_0]) (by simp only [St.eval, upd_at, Nat.reduceEqDiff, if_true, if_false, featPV, g66_0] <;> rfl) ?_
        refine pops_do rfl rfl (by simp only [upd_at, Nat.reduceEqDiff, if_true, if_false, featPV, g66_0]) fun M hM => ?_
        simp only [pop, St.eval, constSlot, upd_at, Nat.reduceEqDiff, if_true, if_false, eq_self, true_and, and_true, featPV, g66_0]
        refine newP_neq Tryz.underlying40 (hM _ _ ?_)
        clear hM M
        refine pops_mvg (.inl rfl) rfl rfl (by simp only [upd_at, Nat.reduceEqDiff, if_true, if_false, featPV, g66_0]) (by simp only [St.eval, upd_at, Nat.reduceEqDiff, if_true, if_false, featPV, g66_0] <;> rfl) ?_
        refine pops_do rfl rfl (by simp only [upd_at, Nat.reduceEqDiff, if_true, if_false, featPV, g66_0]) fun M hM => ?_
        simp only [pop, St.eval, constSlot, upd_at, Nat.reduceEqDiff, if_true, if_false, popBin, binK, intK, strK, eqK, Tryz.underlying27, isPtr, eq_self, true_and, and_true, featPV, g66_0]
        refine hM _ _ ?_
        clear hM M
        refine pops_do rfl rfl (by simp only [upd_at, Nat.reduceEqDiff, if_true, if_false, featPV, g66_0]) fun M hM => ?_
        simp only [pop, St.eval, constSlot, upd_at, Nat.reduceEqDiff, if_true, if_false, popBin, binK, intK, strK, eqK, Tryz.underlying4, isPtr, eq_self, true_and, and_true, featPV, g66_0]
        refine hM _ _ ?_
        clear hM M
        refine pops_to rfl fun M hM => ?_
        simp only [pop, St.eval, constSlot, upd_at, Nat.reduceEqDiff, if_true, if_false, popIf, true_implies, false_implies, Bool.true_eq_false, Bool.false_eq_true, reduceCtorEq, true_and, and_true, featPV, g66_0]
        refine hM _ _ ?_
        clear hM M
        exact pops_done (hJ118 _ (wk_same (wk_any ((wk_any ((wk_any ((wk_any ((wk_any (Wk.refl _ _))))))))))))
       ·skip
        intro g66_0 J118 hJ118
        simp only [List.take_succ_cons, List.take_zero]
        simp only [anyAt_cons, anyAt_nil] at hJ118
        refine pops_off (b := false) rfl rfl (by simp only [upd_at, Nat.reduceEqDiff, if_true, if_false, featPV, g66_0]) (by decide) ?_
        refine pops_off (b := false) rfl rfl (by simp only [upd_at, Nat.reduceEqDiff, if_true, if_false, featPV, g66_0]) (by decide) ?_
        refine pops_off (b := false) rfl rfl (by simp only [upd_at, Nat.reduceEqDiff, if_true, if_false, featPV, g66_0]) (by decide) ?_
        refine pops_off (b := false) rfl rfl (by simp only [upd_at, Nat.reduceEqDiff, if_true, if_false, featPV, g66_0]) (by decide) ?_
        refine pops_off (b := false) rfl rfl (by simp only [upd_at, Nat.reduceEqDiff, if_true, if_false, featPV, g66_0]) (by decide) ?_
        refine pops_to rfl fun M hM => ?_
        simp only [pop, St.eval, constSlot, upd_at, Nat.reduceEqDiff, if_true, if_false, popIf, true_implies, false_implies, Bool.true_eq_false, Bool.false_eq_true, reduceCtorEq, true_and, and_true, featPV, g66_0]
        refine hM _ _ ?_
        clear hM M
        exact pops_done (hJ118 _ (wk_same (wk_any ((wk_any ((wk_any ((wk_any ((wk_any (Wk.refl _ _))))))))))))
       simp only [List.drop_succ_cons, List.drop_zero, anyAt_cons, anyAt_nil]
       refine pops_mv (.inr rfl) rfl (by simp only [St.eval, upd_at, Nat.reduceEqDiff, if_true, if_false, featPV] <;> rfl) ?_
       refine pops_done (hR117 _ ?_)
       clear hR117 R117
       try simp only [thenK, scopeK]
       refine hN116 _ ?_
       clear hN116 N116
       refine pwp_ret ?_
       simp only [thenK, blockK, scopeK, bodyK]
       refine ⟨_, rfl, endFun s9 ?_⟩
       try simp only [upd_at, Nat.reduceEqDiff, if_true, if_false, featPV]
       all_goals
        first
          | rfl
          | (rw [hfin]; simp; done)
          | (exfalso; simp_all; done)
          | (simp; done)
      ·skip
       refine pwp_then fun N119 hN119 => ?_
       refine pwp_reg fun R120 hR120 => ?_
       refine pops_mv (.inl rfl) rfl (by simp only [St.eval, upd_at, Nat.reduceEqDiff, if_true, if_false, featPV] <;> rfl) ?_
       refine pops_to rfl fun M hM => ?_
       simp only [pop, St.eval, constSlot, upd_at, Nat.reduceEqDiff, if_true, if_false, popBin, binK, intK, strK, eqK, Tryz.underlying27, isPtr, eq_self, true_and, and_true, featPV]
       refine hM _ _ ?_
       clear hM M
       refine pops_mv (.inl rfl) rfl (by simp only [St.eval, upd_at, Nat.reduceEqDiff, if_true, if_false, featPV] <;> rfl) ?_
       apply pops_and0 5 50 55 [51, 52, 53, 54] (by simp only [upd_at, Nat.reduceEqDiff, if_true, if_false, featPV] <;> rfl)
       ·skip
        intro g50_0 J121 hJ121
        simp only [List.take_succ_cons, List.take_zero]
        simp only [anyAt_cons, anyAt_nil] at hJ121
        refine pops_do rfl rfl (by simp only [upd_at, Nat.reduceEqDiff, if_true, if_false, featPV, g50_0]) fun M hM => ?_
        simp only [pop, St.eval, constSlot, upd_at, Nat.reduceEqDiff, if_true, if_false, popFieldAddr, fieldOf, List.drop_succ_cons, List.drop_zero, List.getElem?_toArray, List.getElem?_cons_zero, List.getElem?_cons_succ, Tryz.underlying23, sz3, featPV, g50_0]
        refine ⟨⟨_, rfl⟩, hM _ _ ?_⟩
        clear hM M
        refine pops_do rfl rfl (by simp only [upd_at, Nat.reduceEqDiff, if_true, if_false, featPV, g50_0]) fun M hM => ?_
        simp only [pop, St.eval, constSlot, upd_at, Nat.reduceEqDiff, if_true, if_false, popLoad, loadK, isAggD, List.drop_zero, List.getElem?_toArray, List.getElem?_cons_zero, List.getElem?_cons_succ, Bool.false_eq_true, Tryz.underlying3, sz3, eq_self, true_and, and_true, featPV, g50_0]
        refine hM _ _ ?_
        clear hM M
        refine pops_do rfl rfl (by simp only [upd_at, Nat.reduceEqDiff, if_true, if_false, featPV, g50_0]) fun M hM => ?_
        simp only [pop, St.eval, constSlot, upd_at, Nat.reduceEqDiff, if_true, if_false, popBin, binK, intK, strK, eqK, eq_self, true_and, and_true, featPV, g50_0]
        refine hM _ _ ?_
        clear hM M
        refine pops_do rfl rfl (by simp only [upd_at, Nat.reduceEqDiff, if_true, if_false, featPV, g50_0]) fun M hM => ?_
        simp only [pop, St.eval, constSlot, upd_at, Nat.reduceEqDiff, if_true, if_false, popBin, binK, intK, strK, eqK, Tryz.underlying3, isPtr, eq_self, true_and, and_true, featPV, g50_0]
        refine hM _ _ ?_
        clear hM M
        refine pops_to rfl fun M hM => ?_
        simp only [pop, St.eval, constSlot, upd_at, Nat.reduceEqDiff, if_true, if_false, popIf, true_implies, false_implies, Bool.true_eq_false, Bool.false_eq_true, reduceCtorEq, true_and, and_true, featPV, g50_0]
        refine hM _ _ ?_
        clear hM M
        exact pops_done (hJ121 _ (wk_same (wk_any ((wk_any ((wk_any ((wk_any (Wk.refl _ _))))))))))
       ·skip
        intro g50_0 J121 hJ121
        simp only [List.take_succ_cons, List.take_zero]
        simp only [anyAt_cons, anyAt_nil] at hJ121
        refine pops_off (b := false) rfl rfl (by simp only [upd_at, Nat.reduceEqDiff, if_true, if_false, featPV, g50_0]) (by decide) ?_
        refine pops_off (b := false) rfl rfl (by simp only [upd_at, Nat.reduceEqDiff, if_true, if_false, featPV, g50_0]) (by decide) ?_
        refine pops_off (b := false) rfl rfl (by simp only [upd_at, Nat.reduceEqDiff, if_true, if_false, featPV, g50_0]) (by decide) ?_
        refine pops_off (b := false) rfl rfl (by simp only [upd_at, Nat.reduceEqDiff, if_true, if_false, featPV, g50_0]) (by decide) ?_
        refine pops_to rfl fun M hM => ?_
        simp only [pop, St.eval, constSlot, upd_at, Nat.reduceEqDiff, if_true, if_false, popIf, true_implies, false_implies, Bool.true_eq_false, Bool.false_eq_true, reduceCtorEq, true_and, and_true, featPV, g50_0]
        refine hM _ _ ?_
        clear hM M
        exact pops_done (hJ121 _ (wk_same (wk_any ((wk_any ((wk_any ((wk_any (Wk.refl _ _))))))))))
       simp only [List.drop_succ_cons, List.drop_zero, anyAt_cons, anyAt_nil]
       refine pops_mv (.inr rfl) rfl (by simp only [St.eval, upd_at, Nat.reduceEqDiff, if_true, if_false, featPV] <;> rfl) ?_
       refine pops_done (hR120 _ ?_)
       clear hR120 R120
       try simp only [thenK, scopeK]
       refine hN119 _ ?_
       clear hN119 N119
       refine pwp_cond (by simp only [St.eval, upd_at, Nat.reduceEqDiff, if_true, if_false, featPV] <;> rfl) (fun c47 => ?_) (fun c47 => ?_)
       ·skip
        have hfin := mnt_12 (x := x) c47
        refine pwp_reg fun R122 hR122 => ?_
        refine pops_mv (.inr rfl) rfl (by simp only [St.eval, constSlot] <;> rfl) ?_
        refine pops_done (hR122 _ ?_)
        clear hR122 R122
        try simp only [blockK, thenK, scopeK]
        try simp only [thenK, scopeK]
        refine hN109 _ ?_
        clear hN109 N109
        refine pwp_then fun N123 hN123 => ?_
        refine pwp_reg fun R124 hR124 => ?_
        refine pops_mv (.inl rfl) rfl (by simp only [St.eval, upd_at, Nat.reduceEqDiff, if_true, if_false, featPV] <;> rfl) ?_
        refine pops_mv (.inl rfl) rfl (by simp only [St.eval, upd_at, Nat.reduceEqDiff, if_true, if_false, featPV] <;> rfl) ?_
        refine pops_to rfl fun M hM => ?_
        simp only [pop, St.eval, constSlot, upd_at, Nat.reduceEqDiff, if_true, if_false, List.length_cons, List.length_nil, Nat.zero_add, Nat.reduceAdd, Nat.reduceLeDiff, List.take_zero, List.take_succ_cons, List.take_nil, List.drop_succ_cons, List.drop_zero, List.drop_nil, List.nil_append, List.cons_append, List.append_nil, and_self, List.getElem?_cons_zero, List.getElem?_cons_succ, List.set_cons_zero, List.set_cons_succ, Option.some.injEq, popLoad, loadK, isAggD, List.drop_zero, List.getElem?_toArray, List.getElem?_cons_zero, List.getElem?_cons_succ, Bool.false_eq_true, Tryz.underlying25, sz25, eq_self, true_and, and_true, featPV]
        refine hM _ _ ?_
        clear hM M
        refine pops_to rfl fun M hM => ?_
        simp only [pop, St.eval, constSlot, upd_at, Nat.reduceEqDiff, if_true, if_false, popCall, List.toList_toArray, List.map_cons, List.map_nil, svs, List.mapM_cons, List.mapM_nil, Option.bind_eq_bind, Option.bind_some, Option.pure_def, List.append_nil, List.cons_append, List.nil_append, str_size, featPV]
        first
          | refine PFun.use (newMnt_fun W0 x _ o) fun h9 s9 => hM _ _ ?_
          | refine PFun.use (newNilC_fun W0 x o) fun h9 s9 => hM _ _ ?_
          | refine PFun.use (newNilS_fun W0 _ o) fun h9 s9 => hM _ _ ?_
        replace s9 := Same.trans s6 s9
        clear hM M
        refine pops_mv (.inl rfl) rfl (by simp only [St.eval, upd_at, Nat.reduceEqDiff, if_true, if_false, featPV] <;> rfl) ?_
        refine pops_to rfl fun M hM => ?_
        simp only [pop, St.eval, constSlot, upd_at, Nat.reduceEqDiff, if_true, if_false, List.getElem?_toArray, List.getElem?_cons_zero, List.getElem?_cons_succ, featPV]
        refine hM _ _ ?_
        clear hM M
        refine pops_to rfl fun M hM => ?_
        simp only [pop, St.eval, constSlot, upd_at, Nat.reduceEqDiff, if_true, if_false, List.getElem?_toArray, List.getElem?_cons_zero, List.getElem?_cons_succ, featPV]
        refine hM _ _ ?_
        clear hM M
        refine pops_mv (.inr rfl) rfl (by simp only [St.eval, upd_at, Nat.reduceEqDiff, if_true, if_false, featPV] <;> rfl) ?_
        refine pops_mv (.inr rfl) rfl (by simp only [St.eval, upd_at, Nat.reduceEqDiff, if_true, if_false, featPV] <;> rfl) ?_
        refine pops_done (hR124 _ ?_)
        clear hR124 R124
        try simp only [thenK, scopeK]
        refine hN123 _ ?_
        clear hN123 N123
        refine pwp_then fun N125 hN125 => ?_
        refine pwp_reg fun R126 hR126 => ?_
        refine pops_mv (.inl rfl) rfl (by simp only [St.eval, upd_at, Nat.reduceEqDiff, if_true, if_false, featPV] <;> rfl) ?_
        refine pops_mv (.inl rfl) rfl (by simp only [St.eval, upd_at, Nat.reduceEqDiff, if_true, if_false, featPV] <;> rfl) ?_
        refine pops_to rfl fun M hM => ?_
        simp only [pop, St.eval, constSlot, upd_at, Nat.reduceEqDiff, if_true, if_false, popBin, binK, intK, strK, eqK, Tryz.underlying27, isPtr, eq_self, true_and, and_true, featPV]
        refine hM _ _ ?_
        clear hM M
        refine pops_mv (.inl rfl) rfl (by simp only [St.eval, upd_at, Nat.reduceEqDiff, if_true, if_false, featPV] <;> rfl) ?_
        apply pops_and0 6 66 72 [67, 68, 69, 70, 71] (by simp only [upd_at, Nat.reduceEqDiff, if_true, if_false, featPV] <;> rfl)
        ·skip
         intro g66_0 J127 hJ127
         simp only [List.take_succ_cons, List.take_zero]
         simp only [anyAt_cons, anyAt_nil] at hJ127
         refine pops_mvg (.inl rfl) rfl rfl (by simp only [upd_at, Nat.reduceEqDiff, if_true, if_false, featPV, g66_0]) (by simp only [St.eval, upd_at, Nat.reduceEqDiff, if_true, if_false, featPV, g66_0] <;> rfl) ?_
         refine pops_do rfl rfl (by simp only [upd_at, Nat.reduceEqDiff, if_true, if_false, featPV, g66_0]) fun M hM => ?_
         simp only [pop, St.eval, constSlot, upd_at, Nat.reduceEqDiff, if_true, if_false, eq_self, true_and, and_true, featPV, g66_0]
         refine newP_neq Tryz.underlying40 (hM _ _ ?_)
         clear hM M
         refine pops_mvg (.inl rfl) rfl rfl (by simp only [upd_at, Nat.reduceEqDiff, if_true, if_false, featPV, g66_0]) (by simp only [St.eval, upd_at, Nat.reduceEqDiff, if_true, if_false, featPV, g66_0] <;> rfl) ?_
         refine pops_do rfl rfl (by simp only [upd_at, Nat.reduceEqDiff, if_true, if_false, featPV, g66_0]) fun M hM => ?_
         simp only [pop, St.eval, constSlot, upd_at, Nat.reduceEqDiff, if_true, if_false, popBin, binK, intK, strK, eqK, Tryz.underlying27, isPtr, eq_self, true_and, and_true, featPV, g66_0]
         refine hM _ _ ?_
         clear hM M
         refine pops_do rfl rfl (by simp only [upd_at, Nat.reduceEqDiff, if_true, if_false, featPV, g66_0]) fun M hM => ?_
         simp only [pop, St.eval, constSlot, upd_at, Nat.reduceEqDiff, if_true, if_false, popBin, binK, intK, strK, eqK, Tryz.underlying4, isPtr, eq_self, true_and, and_true, featPV, g66_0]
         refine hM _ _ ?_
         clear hM M
         refine pops_to rfl fun M hM => ?_
         simp only [pop, St.eval, constSlot, upd_at, Nat.reduceEqDiff, if_true, if_false, popIf, true_implies, false_implies, Bool.true_eq_false, Bool.false_eq_true, reduceCtorEq, true_and, and_true, featPV, g66_0]
         refine hM _ _ ?_
         clear hM M
         exact pops_done (hJ127 _ (wk_same (wk_any ((wk_any ((wk_any ((wk_any ((wk_any (Wk.refl _ _))))))))))))
        ·skip
         intro g66_0 J127 hJ127
         simp only [List.take_succ_cons, List.take_zero]
         simp only [anyAt_cons, anyAt_nil] at hJ127
         refine pops_off (b := false) rfl rfl (by simp only [upd_at, Nat.reduceEqDiff, if_true, if_false, featPV, g66_0]) (by decide) ?_
         refine pops_off (b := false) rfl rfl (by simp only [upd_at, Nat.reduceEqDiff, if_true, if_false, featPV, g66_0]) (by decide) ?_
         refine pops_off (b := false) rfl rfl (by simp only [upd_at, Nat.reduceEqDiff, if_true, if_false, featPV, g66_0]) (by decide) ?_
         refine pops_off (b := false) rfl rfl (by simp only [upd_at, Nat.reduceEqDiff, if_true, if_false, featPV, g66_0]) (by decide) ?_
         refine pops_off (b := false) rfl rfl (by simp only [upd_at, Nat.reduceEqDiff, if_true, if_false, featPV, g66_0]) (by decide) ?_
         refine pops_to rfl fun M hM => ?_
         simp only [pop, St.eval, constSlot, upd_at, Nat.reduceEqDiff, if_true, if_false, popIf, true_implies, false_implies, Bool.true_eq_false, Bool.false_eq_true, reduceCtorEq, true_and, and_true, featPV, g66_0]
         refine hM _ _ ?_
         clear hM M
         exact pops_done (hJ127 _ (wk_same (wk_any ((wk_any ((wk_any ((wk_any ((wk_any (Wk.refl _ _))))))))))))
        simp only [List.drop_succ_cons, List.drop_zero, anyAt_cons, anyAt_nil]
        refine pops_mv (.inr rfl) rfl (by simp only [St.eval, upd_at, Nat.reduceEqDiff, if_true, if_false, featPV] <;> rfl) ?_
        refine pops_done (hR126 _ ?_)
        clear hR126 R126
        try simp only [thenK, scopeK]
        refine hN125 _ ?_
        clear hN125 N125
        refine pwp_ret ?_
        simp only [thenK, blockK, scopeK, bodyK]
        refine ⟨_, rfl, endFun s9 ?_⟩
        try simp only [upd_at, Nat.reduceEqDiff, if_true, if_false, featPV]
        all_goals
         first
           | rfl
           | (rw [hfin]; simp; done)
           | (exfalso; simp_all; done)
           | (simp; done)
       ·skip
        have hfin := mnt_fin (x := x) c47
        refine pwp_skip ?_
        try simp only [blockK, thenK, scopeK]
        try simp only [thenK, scopeK]
        refine hN109 _ ?_
        clear hN109 N109
        refine pwp_then fun N128 hN128 => ?_
        refine pwp_reg fun R129 hR129 => ?_
        refine pops_mv (.inl rfl) rfl (by simp only [St.eval, upd_at, Nat.reduceEqDiff, if_true, if_false, featPV] <;> rfl) ?_
        refine pops_mv (.inl rfl) rfl (by simp only [St.eval, upd_at, Nat.reduceEqDiff, if_true, if_false, featPV] <;> rfl) ?_
        refine pops_to rfl fun M hM => ?_
        simp only [pop, St.eval, constSlot, upd_at, Nat.reduceEqDiff, if_true, if_false, List.length_cons, List.length_nil, Nat.zero_add, Nat.reduceAdd, Nat.reduceLeDiff, List.take_zero, List.take_succ_cons, List.take_nil, List.drop_succ_cons, List.drop_zero, List.drop_nil, List.nil_append, List.cons_append, List.append_nil, and_self, List.getElem?_cons_zero, List.getElem?_cons_succ, List.set_cons_zero, List.set_cons_succ, Option.some.injEq, popLoad, loadK, isAggD, List.drop_zero, List.getElem?_toArray, List.getElem?_cons_zero, List.getElem?_cons_succ, Bool.false_eq_true, Tryz.underlying25, sz25, eq_self, true_and, and_true, featPV]
        refine hM _ _ ?_
        clear hM M
        refine pops_to rfl fun M hM => ?_
        simp only [pop, St.eval, constSlot, upd_at, Nat.reduceEqDiff, if_true, if_false, popCall, List.toList_toArray, List.map_cons, List.map_nil, svs, List.mapM_cons, List.mapM_nil, Option.bind_eq_bind, Option.bind_some, Option.pure_def, List.append_nil, List.cons_append, List.nil_append, str_size, featPV]
        first
          | refine PFun.use (newMnt_fun W0 x _ o) fun h9 s9 => hM _ _ ?_
          | refine PFun.use (newNilC_fun W0 x o) fun h9 s9 => hM _ _ ?_
          | refine PFun.use (newNilS_fun W0 _ o) fun h9 s9 => hM _ _ ?_
        replace s9 := Same.trans s6 s9
        clear hM M
        refine pops_mv (.inl rfl) rfl (by simp only [St.eval, upd_at, Nat.reduceEqDiff, if_true, if_false, featPV] <;> rfl) ?_
        refine pops_to rfl fun M hM => ?_
        simp only [pop, St.eval, constSlot, upd_at, Nat.reduceEqDiff, if_true, if_false, List.getElem?_toArray, List.getElem?_cons_zero, List.getElem?_cons_succ, featPV]
        refine hM _ _ ?_
        clear hM M
        refine pops_to rfl fun M hM => ?_
        simp only [pop, St.eval, constSlot, upd_at, Nat.reduceEqDiff, if_true, if_false, List.getElem?_toArray, List.getElem?_cons_zero, List.getElem?_cons_succ, featPV]
        refine hM _ _ ?_
        clear hM M
        refine pops_mv (.inr rfl) rfl (by simp only [St.eval, upd_at, Nat.reduceEqDiff, if_true, if_false, featPV] <;> rfl) ?_
        refine pops_mv (.inr rfl) rfl (by simp only [St.eval, upd_at, Nat.reduceEqDiff, if_true, if_false, featPV] <;> rfl) ?_
        refine pops_done (hR129 _ ?_)
        clear hR129 R129
        try simp only [thenK, scopeK]
        refine hN128 _ ?_
        clear hN128 N128
        refine pwp_then fun N130 hN130 => ?_
        refine pwp_reg fun R131 hR131 => ?_
        refine pops_mv (.inl rfl) rfl (by simp only [St.eval, upd_at, Nat.reduceEqDiff, if_true, if_false, featPV] <;> rfl) ?_
        refine pops_mv (.inl rfl) rfl (by simp only [St.eval, upd_at, Nat.reduceEqDiff, if_true, if_false, featPV] <;> rfl) ?_
        refine pops_to rfl fun M hM => ?_
        simp only [pop, St.eval, constSlot, upd_at, Nat.reduceEqDiff, if_true, if_false, popBin, binK, intK, strK, eqK, Tryz.underlying27, isPtr, eq_self, true_and, and_true, featPV]
        refine hM _ _ ?_
        clear hM M
        refine pops_mv (.inl rfl) rfl (by simp only [St.eval, upd_at, Nat.reduceEqDiff, if_true, if_false, featPV] <;> rfl) ?_
        apply pops_and0 6 66 72 [67, 68, 69, 70, 71] (by simp only [upd_at, Nat.reduceEqDiff, if_true, if_false, featPV] <;> rfl)
        ·skip
         intro g66_0 J132 hJ132
         simp only [List.take_succ_cons, List.take_zero]
         simp only [anyAt_cons, anyAt_nil] at hJ132
         refine pops_mvg (.inl rfl) rfl rfl (by simp only [upd_at, Nat.reduceEqDiff, if_true, if_false, featPV, g66_0]) (by simp only [St.eval, upd_at, Nat.reduceEqDiff, if_true, if_false, featPV, g66_0] <;> rfl) ?_
         refine pops_do rfl rfl (by simp only [upd_at, Nat.reduceEqDiff, if_true, if_false, featPV, g66_0]) fun M hM => ?_
         simp only [pop, St.eval, constSlot, upd_at, Nat.reduceEqDiff, if_true, if_false, eq_self, true_and, and_true, featPV, g66_0]
         refine newP_neq Tryz.underlying40 (hM _ _ ?_)
         clear hM M
         refine pops_mvg (.inl rfl) rfl rfl (by simp only [upd_at, Nat.reduceEqDiff, if_true, if_false, featPV, g66_0]) (by simp only [St.eval, upd_at, Nat.reduceEqDiff, if_true, if_false, featPV, g66_0] <;> rfl) ?_
         refine pops_do rfl rfl (by simp only [upd_at, Nat.reduceEqDiff, if_true, if_false, featPV, g66_0]) fun M hM => ?_
         simp only [pop, St.eval, constSlot, upd_at, Nat.reduceEqDiff, if_true, if_false, popBin, binK, intK, strK, eqK, Tryz.underlying27, isPtr, eq_self, true_and, and_true, featPV, g66_0]
         refine hM _ _ ?_
         clear hM M
         refine pops_do rfl rfl (by simp only [upd_at, Nat.reduceEqDiff, if_true, if_false, featPV, g66_0]) fun M hM => ?_
         simp only [pop, St.eval, constSlot, upd_at, Nat.reduceEqDiff, if_true, if_false, popBin, binK, intK, strK, eqK, Tryz.underlying4, isPtr, eq_self, true_and, and_true, featPV, g66_0]
         refine hM _ _ ?_
         clear hM M
         refine pops_to rfl fun M hM => ?_
         simp only [pop, St.eval, constSlot, upd_at, Nat.reduceEqDiff, if_true, if_false, popIf, true_implies, false_implies, Bool.true_eq_false, Bool.false_eq_true, reduceCtorEq, true_and, and_true, featPV, g66_0]
         refine hM _ _ ?_
         clear hM M
         exact pops_done (hJ132 _ (wk_same (wk_any ((wk_any ((wk_any ((wk_any ((wk_any (Wk.refl _ _))))))))))))
        ·skip
         intro g66_0 J132 hJ132
         simp only [List.take_succ_cons, List.take_zero]
         simp only [anyAt_cons, anyAt_nil] at hJ132
         refine pops_off (b := false) rfl rfl (by simp only [upd_at, Nat.reduceEqDiff, if_true, if_false, featPV, g66_0]) (by decide) ?_
         refine pops_off (b := false) rfl rfl (by simp only [upd_at, Nat.reduceEqDiff, if_true, if_false, featPV, g66_0]) (by decide) ?_
         refine pops_off (b := false) rfl rfl (by simp only [upd_at, Nat.reduceEqDiff, if_true, if_false, featPV, g66_0]) (by decide) ?_
         refine pops_off (b := false) rfl rfl (by simp only [upd_at, Nat.reduceEqDiff, if_true, if_false, featPV, g66_0]) (by decide) ?_
         refine pops_off (b := false) rfl rfl (by simp only [upd_at, Nat.reduceEqDiff, if_true, if_false, featPV, g66_0]) (by decide) ?_
         refine pops_to rfl fun M hM => ?_
         simp only [pop, St.eval, constSlot, upd_at, Nat.reduceEqDiff, if_true, if_false, popIf, true_implies, false_implies, Bool.true_eq_false, Bool.false_eq_true, reduceCtorEq, true_and, and_true, featPV, g66_0]
         refine hM _ _ ?_
         clear hM M
         exact pops_done (hJ132 _ (wk_same (wk_any ((wk_any ((wk_any ((wk_any ((wk_any (Wk.refl _ _))))))))))))
        simp only [List.drop_succ_cons, List.drop_zero, anyAt_cons, anyAt_nil]
        refine pops_mv (.inr rfl) rfl (by simp only [St.eval, upd_at, Nat.reduceEqDiff, if_true, if_false, featPV] <;> rfl) ?_
        refine pops_done (hR131 _ ?_)
        clear hR131 R131
        try simp only [thenK, scopeK]
        refine hN130 _ ?_
        clear hN130 N130
        refine pwp_ret ?_
        simp only [thenK, blockK, scopeK, bodyK]
        refine ⟨_, rfl, endFun s9 ?_⟩
        try simp only [upd_at, Nat.reduceEqDiff, if_true, if_false, featPV]
        all_goals
         first
           | rfl
           | (rw [hfin]; simp; done)
           | (exfalso; simp_all; done)
           | (simp; done)
end Go.Pw
