/- Own work: part of the proof of the row YtlghclplgbijjaaDoorRowFilterChecksUpto; no condition of its own. -/
import Derived.Test.YtlghclplgbijjaaDoorGlobC
import Derived.Test.YtlghclplgbijjaaDoorGFacts
namespace Go.Pw
open Go Go.RowKit Go.Proofs
set_option maxRecDepth 100000
set_option linter.unusedSimpArgs false
set_option linter.unusedVariables false
theorem nm40 : (Tryd.f40.name == "runtime.NumGoroutine") = false := by kernel_rfl
set_option maxHeartbeats 4000000 in
theorem checkParts_fun1 (W0 : World) (l : List GPart) (hl : lW l ≤ 1048576) (ih : ∀ l' : List GPart, lW l' < lW l → lW l' ≤ 1048576 → PFun Tryd.prog W0 40 [.one (.ro false 5 (encL l'))] (.sv (.one (pint (chkL false l'))))) :
  PFun Tryd.prog W0 40 [.one (.ro false 5 (encL l))] (.sv (.one (pint (chkL false l)))) := by
 intro h
 have hln := lW_len l
 refine pcalls1 (n := 67) Tryd.func40 rfl nm40 rfl fun hb => ?_
 refine pwp_then fun N1 hN1 => ?_
 refine pwp_reg fun R2 hR2 => ?_
 refine pops_to rfl fun M hM => ?_
 simp only [pop, St.eval, upd_at, if_true, popBox, popBoxRo, slotCells]
 refine .inr ⟨Nat.succ_pos _, hM _ _ ?_⟩
 clear hM M
 refine pops_mv (.inr rfl) rfl (by simp only [St.eval, constSlot] <;> rfl) ?_
 refine pops_done (hR2 _ ?_)
 clear hR2 R2
 try simp only [thenK]
 refine hN1 _ ?_
 clear hN1 N1
 refine pwp_then fun N3 hN3 => ?_
 refine pwp_reg fun R4 hR4 => ?_
 refine pops_to rfl fun M hM => ?_
 simp only [pop, St.eval, constSlot, upd_at, Nat.reduceEqDiff, if_true, if_false, onesOf, List.mapM_cons, List.mapM_nil, Option.bind_eq_bind, Option.bind_some, Option.pure_def, eq_self, true_and]
 refine hM _ _ ?_
 clear hM M
 refine pops_mv (.inr rfl) rfl (by simp only [St.eval, upd_at, Nat.reduceEqDiff, if_true, if_false] <;> rfl) ?_
 refine pops_done (hR4 _ ?_)
 clear hR4 R4
 try simp only [thenK]
 refine hN3 _ ?_
 clear hN3 N3
 refine pwp_then fun N5 hN5 => ?_
 refine pwp_then fun N6 hN6 => ?_
 refine pwp_reg fun R7 hR7 => ?_
 refine pops_to rfl fun M hM => ?_
 simp only [pop, St.eval, upd_at, Nat.reduceEqDiff, if_true, if_false, popLoad, loadK, isAggD, Bool.false_eq_true, Tryd.underlying22, sz22, eq_self]
 refine hM _ _ ?_
 clear hM M
 refine pops_to rfl fun M hM => ?_
 simp only [pop, St.eval, upd_at, Nat.reduceEqDiff, if_true, if_false, popCall, List.map_cons, List.map_nil, popBuiltin, popLen, lenOfSlot, Tryd.underlying22, eq_self, encL_len]
 refine hM _ _ ?_
 clear hM M
 refine pops_mv (.inl rfl) rfl (by simp only [St.eval, constSlot] <;> rfl) ?_
 refine pops_done (hR7 _ ?_)
 clear hR7 R7
 try simp only [thenK]
 refine hN6 _ ?_
 clear hN6 N6
 refine pwp_block ?_
 refine pwp_loop (fun k σ => ∃ (i : Nat), (k = l.length - i) ∧ (i ≤ l.length) ∧ (chkL (textAt l ((i : Int) - 1)) (l.drop i) = chkL false l) ∧ (Same h σ.hp) ∧ (σ.env 1 = .sv (.one (.rop [.ro false 5 (encL l)]))) ∧ (σ.env 3 = .sv (.one (.clo (.func 66) [.rop [.ro false 5 (encL l)]]))) ∧ (σ.env 12 = .sv (.one (.ro false 5 (encL l)))) ∧ (σ.env 13 = .sv (.one (pint (l.length : Nat)))) ∧ (σ.env 14 = .sv (.one (pint (i : Nat))))) _ ⟨_, .refl _ _, 0, rfl, ?_⟩ ?_
 · exact ⟨Nat.zero_le _, by rw [textAt_neg (by omega)]; rfl, (Same.refl _), by simp only [upd_at, Nat.reduceEqDiff, if_true, if_false], by simp only [upd_at, Nat.reduceEqDiff, if_true, if_false], by simp only [upd_at, Nat.reduceEqDiff, if_true, if_false], by first | rfl | (simp only [upd_at, Nat.reduceEqDiff, if_true, if_false]; rfl), by first | rfl | (simp only [upd_at, Nat.reduceEqDiff, if_true, if_false]; rfl)⟩
 ·rintro k ⟨e, hp0⟩ ⟨i, hk0, hx0_0, hx0_1, sl0, e0_1, e0_3, e0_12, e0_13, e0_14⟩
  simp only at sl0 e0_1 e0_3 e0_12 e0_13 e0_14
  refine pwp_then fun N8 hN8 => ?_
  refine pwp_reg fun R9 hR9 => ?_
  refine pops_to rfl fun M hM => ?_
  simp only [pop, St.eval, popBin, binK, intK, eq_self, true_and, e0_13, e0_14]
  refine hM _ _ ?_
  clear hM M
  refine pops_done (hR9 _ ?_)
  clear hR9 R9
  try simp only [thenK]
  refine hN8 _ ?_
  clear hN8 N8
  refine pwp_then fun N10 hN10 => ?_
  refine pwp_cond (by simp only [St.eval, upd_at, if_true] <;> rfl) (fun c15 => ?_) (fun c15 => ?_)
  ·skip
   have hi : i < l.length := by have := of_decide_eq_true c15; omega
   obtain ⟨g, hg⟩ : ∃ g, l[i]? = some g := ⟨_, List.getElem?_eq_getElem hi⟩
   have hget := encL_at hg
   rw [encG_eq] at hget
   have hgw := lW_at hg
   have hge := gW_eq g
   have hwl := wW_len g.ways
   have hrl := rng_len g.ranges
   have hst := chk_step hg
   rw [hx0_1] at hst
   have hw38 := wrapm (i := i) (by omega)
   have hw43 := wrap1 (i := i) (by omega)
   refine pwp_skip ?_
   try simp only [thenK]
   refine hN10 _ ?_
   clear hN10 N10
   refine pwp_then fun N11 hN11 => ?_
   refine pwp_block ?_
   refine pwp_then fun N12 hN12 => ?_
   refine pwp_reg fun R13 hR13 => ?_
   refine pops_mv (.inl rfl) rfl (by simp only [St.eval, upd_at, Nat.reduceEqDiff, if_false, e0_14] <;> rfl) ?_
   refine pops_to rfl fun M hM => ?_
   simp only [pop, St.eval, upd_at, Nat.reduceEqDiff, if_false, popIndexAddr, Tryd.underlying22, sz64, eq_self, true_and, e0_12, e0_14, hget, Int.toNat_natCast]
   refine ⟨Int.natCast_nonneg _, hM _ _ ?_⟩
   clear hM M
   refine pops_to rfl fun M hM => ?_
   simp only [pop, St.eval, upd_at, Nat.reduceEqDiff, if_true, if_false, List.length_cons, List.length_nil, Nat.zero_add, Nat.reduceAdd, Nat.reduceLeDiff, List.take_succ_cons, List.take_nil, popLoad, loadK, isAggD, Tryd.underlying64, sz64, eq_self, true_and]
   refine hM _ _ ?_
   clear hM M
   refine pops_valloc rfl ze64 (zs := [PV.val (.int .i64 0), PV.val (.string ⟨#[]⟩), PV.val (.bool false), PV.val (.slice none 0 0), PV.val (.slice none 0 0)]) (by kernel_rfl) (by exact Nat.succ_pos _) (fun id14 hid14 => ?_)
   refine pops_mv (.inr rfl) rfl (by simp only [St.eval, upd_at, Nat.reduceEqDiff, if_true, if_false] <;> rfl) ?_
   refine pops_vstore (zs := [PV.val (.int .i64 0), PV.val (.string ⟨#[]⟩), PV.val (.bool false), PV.val (.slice none 0 0), PV.val (.slice none 0 0)]) (hpOk.same hb sl0) hid14 (by simp only [upd_at, Nat.reduceEqDiff, if_true, if_false]) (by simp only [St.eval, slotCells, upd_at, Nat.reduceEqDiff, if_true, if_false] <;> rfl) (by rfl) (by rw [sz64]; rfl) (fun hv15 sv15 => ?_)
   replace sv15 := Same.trans sl0 sv15
   refine pops_done (hR13 _ ?_)
   clear hR13 R13
   try simp only [thenK]
   refine hN12 _ ?_
   clear hN12 N12
   refine pwp_then fun N16 hN16 => ?_
   refine pwp_then fun N17 hN17 => ?_
   refine pwp_reg fun R18 hR18 => ?_
   refine pops_to rfl fun M hM => ?_
   simp only [pop, St.eval, upd_at, Nat.reduceEqDiff, if_true, if_false, popFieldAddr, fieldOf, List.drop_zero, List.getElem?_toArray, List.getElem?_cons_zero, Tryd.underlying64, sz3]
   refine ⟨⟨_, rfl⟩, hM _ _ ?_⟩
   clear hM M
   refine pops_to rfl fun M hM => ?_
   simp only [pop, St.eval, upd_at, Nat.reduceEqDiff, if_true, if_false, popLoad, loadK, isAggD, Bool.false_eq_true, Tryd.underlying3, sz3, eq_self]
   refine hM _ _ ?_
   clear hM M
   refine pops_to rfl fun M hM => ?_
   simp only [pop, St.eval, constSlot, upd_at, Nat.reduceEqDiff, if_true, if_false, popBin, binK, intK, eq_self, true_and]
   refine hM _ _ ?_
   clear hM M
   refine pops_mv (.inl rfl) rfl (by simp only [St.eval, upd_at, Nat.reduceEqDiff, if_true, if_false] <;> rfl) ?_
   apply pops_or0 4 22 26 [23, 24, 25] (by simp only [upd_at, Nat.reduceEqDiff, if_true, if_false] <;> rfl)
   ·skip
    intro g22_0 J19 hJ19
    simp only [List.take_succ_cons, List.take_zero]
    simp only [anyAt_cons, anyAt_nil] at hJ19
    refine pops_do rfl rfl (by simp only [upd_at, Nat.reduceEqDiff, if_true, if_false, g22_0]) fun M hM => ?_
    simp only [pop, St.eval, upd_at, Nat.reduceEqDiff, if_true, if_false, popFieldAddr, fieldOf, List.drop_zero, List.getElem?_toArray, List.getElem?_cons_zero, Tryd.underlying64, sz3, g22_0]
    refine ⟨⟨_, rfl⟩, hM _ _ ?_⟩
    clear hM M
    refine pops_do rfl rfl (by simp only [upd_at, Nat.reduceEqDiff, if_true, if_false, g22_0]) fun M hM => ?_
    simp only [pop, St.eval, upd_at, Nat.reduceEqDiff, if_true, if_false, popLoad, loadK, isAggD, Bool.false_eq_true, Tryd.underlying3, sz3, eq_self, g22_0]
    refine hM _ _ ?_
    clear hM M
    refine pops_do rfl rfl (by simp only [upd_at, Nat.reduceEqDiff, if_true, if_false, g22_0]) fun M hM => ?_
    simp only [pop, St.eval, constSlot, upd_at, Nat.reduceEqDiff, if_true, if_false, popBin, binK, intK, eq_self, true_and, g22_0]
    refine hM _ _ ?_
    clear hM M
    refine pops_to rfl fun M hM => ?_
    simp only [pop, St.eval, constSlot, upd_at, Nat.reduceEqDiff, if_true, if_false, true_implies, false_implies, Bool.false_eq_true, true_and, g22_0]
    refine hM _ _ ?_
    clear hM M
    exact pops_done (hJ19 _ (wk_same (wk_any ((wk_any ((wk_any (Wk.refl _ _))))))))
   ·skip
    intro g22_0 J19 hJ19
    simp only [List.take_succ_cons, List.take_zero]
    simp only [anyAt_cons, anyAt_nil] at hJ19
    refine pops_off (b := true) rfl rfl (by simp only [upd_at, Nat.reduceEqDiff, if_true, if_false, g22_0]) (by decide) ?_
    refine pops_off (b := true) rfl rfl (by simp only [upd_at, Nat.reduceEqDiff, if_true, if_false, g22_0]) (by decide) ?_
    refine pops_off (b := true) rfl rfl (by simp only [upd_at, Nat.reduceEqDiff, if_true, if_false, g22_0]) (by decide) ?_
    refine pops_to rfl fun M hM => ?_
    simp only [pop, St.eval, constSlot, upd_at, Nat.reduceEqDiff, if_true, if_false, true_implies, false_implies, Bool.true_eq_false, and_true, g22_0]
    refine hM _ _ ?_
    clear hM M
    exact pops_done (hJ19 _ (wk_same (wk_any ((wk_any ((wk_any (Wk.refl _ _))))))))
   simp only [List.drop_succ_cons, List.drop_zero, anyAt_cons, anyAt_nil]
   refine pops_done (hR18 _ ?_)
   clear hR18 R18
   try simp only [thenK]
   refine hN17 _ ?_
   clear hN17 N17
   refine pwp_cond (by simp only [St.eval, upd_at, Nat.reduceEqDiff, if_true, if_false] <;> rfl) (fun c26 => ?_) (fun c26 => ?_)
   ·skip
    have hk : g.kind < 1 ∨ 6 < g.kind := by simp only [Bool.or_eq_true, decide_eq_true_eq] at c26; omega
    rw [if_pos hk] at hst
    refine pwp_then fun N20 hN20 => ?_
    refine pwp_reg fun R21 hR21 => ?_
    refine pops_mv (.inr rfl) rfl (by simp only [St.eval, constSlot] <;> rfl) ?_
    refine pops_done (hR21 _ ?_)
    clear hR21 R21
    try simp only [thenK]
    refine hN20 _ ?_
    clear hN20 N20
    refine pwp_ret ?_
    simp only [thenK, blockK, bodyK]
    clear hN16 N16 hN11 N11 hN5 N5
    refine ⟨_, rfl, endFun sv15 ?_⟩
    try simp only [upd_at, Nat.reduceEqDiff, if_true, if_false]
    all_goals
     rw [hst]
   ·skip
    have hk : ¬ (g.kind < 1 ∨ 6 < g.kind) := by simp only [Bool.or_eq_false_iff, decide_eq_false_iff_not] at c26; omega
    rw [if_neg hk] at hst
    refine pwp_skip ?_
    try simp only [thenK]
    refine hN16 _ ?_
    clear hN16 N16
    refine pwp_then fun N22 hN22 => ?_
    refine pwp_then fun N23 hN23 => ?_
    refine pwp_reg fun R24 hR24 => ?_
    refine pops_to rfl fun M hM => ?_
    simp only [pop, St.eval, upd_at, Nat.reduceEqDiff, if_true, if_false, List.length_cons, List.length_nil, Nat.zero_add, Nat.reduceAdd, Nat.reduceLeDiff, List.take_succ_cons, List.take_nil, popLoad, loadK, isAggD, Tryd.underlying64, sz64, eq_self, true_and]
    refine hM _ _ ?_
    clear hM M
    refine pops_to rfl fun M hM => ?_
    simp only [pop, St.eval, constSlot, upd_at, Nat.reduceEqDiff, if_true, if_false, popCall, List.map_nil, svs, List.mapM_cons, List.mapM_nil, Option.bind_eq_bind, Option.bind_some, Option.pure_def, List.append_nil]
    refine PFun.use (partForm_fun W0 g) fun h1 s1 => hM _ _ ?_
    replace s1 := Same.trans sv15 s1
    clear hM M
    refine pops_mv (.inr rfl) rfl (by simp only [St.eval, upd_at, Nat.reduceEqDiff, if_true, if_false] <;> rfl) ?_
    refine pops_done (hR24 _ ?_)
    clear hR24 R24
    try simp only [thenK]
    refine hN23 _ ?_
    clear hN23 N23
    refine pwp_then fun N25 hN25 => ?_
    refine pwp_reg fun R26 hR26 => ?_
    refine pops_mv (.inl rfl) rfl (by simp only [St.eval, upd_at, Nat.reduceEqDiff, if_true, if_false] <;> rfl) ?_
    refine pops_to rfl fun M hM => ?_
    simp only [pop, St.eval, constSlot, upd_at, Nat.reduceEqDiff, if_true, if_false, popBin, binK, intK, eq_self, true_and]
    refine hM _ _ ?_
    clear hM M
    refine pops_done (hR26 _ ?_)
    clear hR26 R26
    try simp only [thenK]
    refine hN25 _ ?_
    clear hN25 N25
    refine pwp_cond (by simp only [St.eval, upd_at, Nat.reduceEqDiff, if_true, if_false] <;> rfl) (fun c30 => ?_) (fun c30 => ?_)
    ·skip
     have hf : formBad g = true := by cases he : formBad g with | true => rfl | false => rw [he] at c30; exact absurd c30 (by decide)
     rw [if_pos hf] at hst
     refine pwp_then fun N27 hN27 => ?_
     refine pwp_reg fun R28 hR28 => ?_
     refine pops_mv (.inl rfl) rfl (by simp only [St.eval, upd_at, Nat.reduceEqDiff, if_true, if_false] <;> rfl) ?_
     refine pops_mv (.inr rfl) rfl (by simp only [St.eval, upd_at, Nat.reduceEqDiff, if_true, if_false] <;> rfl) ?_
     refine pops_done (hR28 _ ?_)
     clear hR28 R28
     try simp only [thenK]
     refine hN27 _ ?_
     clear hN27 N27
     refine pwp_ret ?_
     simp only [thenK, blockK, bodyK]
     clear hN22 N22 hN11 N11 hN5 N5
     refine ⟨_, rfl, endFun s1 ?_⟩
     try simp only [upd_at, Nat.reduceEqDiff, if_true, if_false]
     all_goals
      first
        | (rw [hst, hf]; rfl)
        | (rw [hst]; simp [hf])
    ·skip
     have hf : formBad g = false := by cases he : formBad g with | false => rfl | true => rw [he] at c30; exact absurd c30 (by decide)
     rw [if_neg (by rw [hf]; decide)] at hst
     refine pwp_skip ?_
     try simp only [thenK]
     refine hN22 _ ?_
     clear hN22 N22
     refine pwp_then fun N29 hN29 => ?_
     refine pwp_then fun N30 hN30 => ?_
     refine pwp_reg fun R31 hR31 => ?_
     refine pops_mv (.inl rfl) rfl (by simp only [St.eval, upd_at, Nat.reduceEqDiff, if_false, e0_3] <;> rfl) ?_
     refine pops_mv (.inl rfl) rfl (by simp only [St.eval, upd_at, Nat.reduceEqDiff, if_true, if_false] <;> rfl) ?_
     refine pops_to rfl fun M hM => ?_
     simp only [pop, St.eval, constSlot, upd_at, Nat.reduceEqDiff, if_true, if_false, popCall, List.map_cons, List.map_nil, svs, List.mapM_cons, List.mapM_nil, Option.bind_eq_bind, Option.bind_some, Option.pure_def, List.cons_append, List.nil_append]
     refine PFun.use (isText_fun W0 l (i : Int)) fun h2 s2 => hM _ _ ?_
     replace s2 := Same.trans s1 s2
     clear hM M
     refine pops_mv (.inl rfl) rfl (by simp only [St.eval, upd_at, Nat.reduceEqDiff, if_true, if_false] <;> rfl) ?_
     apply pops_and 11 35 46 [36, 37, 38, 39, 40, 41, 42, 43, 44, 45] (by simp only [upd_at, Nat.reduceEqDiff, if_true, if_false] <;> rfl)
     ·skip
      intro g35_0 J32 hJ32
      simp only [List.take_succ_cons, List.take_zero]
      simp only [anyAt_cons, anyAt_nil] at hJ32
      refine pops_mvg (.inl rfl) rfl rfl (by simp only [upd_at, Nat.reduceEqDiff, if_true, if_false, g35_0]) (by simp only [St.eval, upd_at, Nat.reduceEqDiff, if_false, e0_3, g35_0] <;> rfl) ?_
      refine pops_mvg (.inl rfl) rfl rfl (by simp only [upd_at, Nat.reduceEqDiff, if_true, if_false, g35_0]) (by simp only [St.eval, upd_at, Nat.reduceEqDiff, if_true, if_false, g35_0] <;> rfl) ?_
      refine pops_do rfl rfl (by simp only [upd_at, Nat.reduceEqDiff, if_true, if_false, g35_0]) fun M hM => ?_
      simp only [pop, St.eval, constSlot, upd_at, Nat.reduceEqDiff, if_true, if_false, popBin, binK, intK, eq_self, true_and, g35_0, hw38]
      refine hM _ _ ?_
      clear hM M
      refine pops_do rfl rfl (by simp only [upd_at, Nat.reduceEqDiff, if_true, if_false, g35_0]) fun M hM => ?_
      simp only [pop, St.eval, constSlot, upd_at, Nat.reduceEqDiff, if_true, if_false, popCall, List.map_cons, List.map_nil, svs, List.mapM_cons, List.mapM_nil, Option.bind_eq_bind, Option.bind_some, Option.pure_def, List.cons_append, List.nil_append, g35_0]
      refine PFun.use (isText_fun W0 l ((i : Int) - 1)) fun h3 s3 => hM _ _ ?_
      replace s3 := Same.trans (Same.refl _) s3
      clear hM M
      refine pops_mvg (.inl rfl) rfl rfl (by simp only [upd_at, Nat.reduceEqDiff, if_true, if_false, g35_0]) (by simp only [St.eval, upd_at, Nat.reduceEqDiff, if_true, if_false, g35_0] <;> rfl) ?_
      apply pops_or 5 40 45 [41, 42, 43, 44] (by simp only [upd_at, Nat.reduceEqDiff, if_true, if_false, g35_0] <;> rfl)
      ·skip
       intro g40_1 J33 hJ33
       simp only [List.take_succ_cons, List.take_zero]
       simp only [anyAt_cons, anyAt_nil] at hJ33
       refine pops_mvg (.inl rfl) rfl rfl (by simp only [upd_at, Nat.reduceEqDiff, if_true, if_false, g35_0, g40_1]) (by simp only [St.eval, upd_at, Nat.reduceEqDiff, if_false, e0_3, g35_0, g40_1] <;> rfl) ?_
       refine pops_mvg (.inl rfl) rfl rfl (by simp only [upd_at, Nat.reduceEqDiff, if_true, if_false, g35_0, g40_1]) (by simp only [St.eval, upd_at, Nat.reduceEqDiff, if_true, if_false, g35_0, g40_1] <;> rfl) ?_
       refine pops_do rfl rfl (by simp only [upd_at, Nat.reduceEqDiff, if_true, if_false, g35_0, g40_1]) fun M hM => ?_
       simp only [pop, St.eval, constSlot, upd_at, Nat.reduceEqDiff, if_true, if_false, popBin, binK, intK, eq_self, true_and, g35_0, g40_1, hw43]
       refine hM _ _ ?_
       clear hM M
       refine pops_do rfl rfl (by simp only [upd_at, Nat.reduceEqDiff, if_true, if_false, g35_0, g40_1]) fun M hM => ?_
       simp only [pop, St.eval, constSlot, upd_at, Nat.reduceEqDiff, if_true, if_false, popCall, List.map_cons, List.map_nil, svs, List.mapM_cons, List.mapM_nil, Option.bind_eq_bind, Option.bind_some, Option.pure_def, List.cons_append, List.nil_append, g35_0, g40_1]
       refine PFun.use (isText_fun W0 l ((i + 1 : Nat) : Int)) fun h4 s4 => hM _ _ ?_
       replace s4 := Same.trans (Same.refl _) s4
       clear hM M
       refine pops_do rfl rfl (by simp only [upd_at, Nat.reduceEqDiff, if_true, if_false, g35_0, g40_1]) fun M hM => ?_
       simp only [pop, St.eval, constSlot, upd_at, Nat.reduceEqDiff, if_true, if_false, true_implies, false_implies, Bool.false_eq_true, true_and, g35_0, g40_1]
       refine hM _ _ ?_
       clear hM M
       exact pops_done (hJ33 _ _ s4 (wk_same (wk_any ((wk_any ((wk_any ((wk_any (Wk.refl _ _))))))))))
      ·skip
       intro g40_1 J33 hJ33
       simp only [List.take_succ_cons, List.take_zero]
       simp only [anyAt_cons, anyAt_nil] at hJ33
       refine pops_off (b := true) rfl rfl (by simp only [upd_at, Nat.reduceEqDiff, if_true, if_false, g35_0, g40_1]) (by decide) ?_
       refine pops_off (b := true) rfl rfl (by simp only [upd_at, Nat.reduceEqDiff, if_true, if_false, g35_0, g40_1]) (by decide) ?_
       refine pops_off (b := true) rfl rfl (by simp only [upd_at, Nat.reduceEqDiff, if_true, if_false, g35_0, g40_1]) (by decide) ?_
       refine pops_off (b := true) rfl rfl (by simp only [upd_at, Nat.reduceEqDiff, if_true, if_false, g35_0, g40_1]) (by decide) ?_
       refine pops_do rfl rfl (by simp only [upd_at, Nat.reduceEqDiff, if_true, if_false, g35_0, g40_1]) fun M hM => ?_
       simp only [pop, St.eval, constSlot, upd_at, Nat.reduceEqDiff, if_true, if_false, true_implies, false_implies, Bool.true_eq_false, and_true, g35_0, g40_1]
       refine hM _ _ ?_
       clear hM M
       exact pops_done (hJ33 _ _ (Same.refl _) (wk_same (wk_any ((wk_any ((wk_any ((wk_any (Wk.refl _ _))))))))))
      simp only [List.drop_succ_cons, List.drop_zero, anyAt_cons, anyAt_nil]
      intro hj33 sj33
      replace sj33 := Same.trans s3 sj33
      refine pops_to rfl fun M hM => ?_
      simp only [pop, St.eval, constSlot, upd_at, Nat.reduceEqDiff, if_true, if_false, true_implies, false_implies, Bool.true_eq_false, and_true, g35_0]
      refine hM _ _ ?_
      clear hM M
      exact pops_done (hJ32 _ _ sj33 (wk_same (wk_any ((wk_any ((wk_any ((wk_any ((wk_any ((wk_any ((wk_any ((wk_any ((wk_any ((wk_any (Wk.refl _ _))))))))))))))))))))))
     ·skip
      intro g35_0 J32 hJ32
      simp only [List.take_succ_cons, List.take_zero]
      simp only [anyAt_cons, anyAt_nil] at hJ32
      refine pops_off (b := false) rfl rfl (by simp only [upd_at, Nat.reduceEqDiff, if_true, if_false, g35_0]) (by decide) ?_
      refine pops_off (b := false) rfl rfl (by simp only [upd_at, Nat.reduceEqDiff, if_true, if_false, g35_0]) (by decide) ?_
      refine pops_off (b := false) rfl rfl (by simp only [upd_at, Nat.reduceEqDiff, if_true, if_false, g35_0]) (by decide) ?_
      refine pops_off (b := false) rfl rfl (by simp only [upd_at, Nat.reduceEqDiff, if_true, if_false, g35_0]) (by decide) ?_
      refine pops_off (b := false) rfl rfl (by simp only [upd_at, Nat.reduceEqDiff, if_true, if_false, g35_0]) (by decide) ?_
      refine pops_off0 rfl rfl (by simp only [upd_at, Nat.reduceEqDiff, if_true, if_false, g35_0]) ?_
      refine pops_off0 rfl rfl (by simp only [upd_at, Nat.reduceEqDiff, if_true, if_false, g35_0]) ?_
      refine pops_off0 rfl rfl (by simp only [upd_at, Nat.reduceEqDiff, if_true, if_false, g35_0]) ?_
      refine pops_off0 rfl rfl (by simp only [upd_at, Nat.reduceEqDiff, if_true, if_false, g35_0]) ?_
      refine pops_off (b := false) rfl rfl (by simp only [upd_at, Nat.reduceEqDiff, if_true, if_false, g35_0]) (by decide) ?_
      refine pops_to rfl fun M hM => ?_
      simp only [pop, St.eval, constSlot, upd_at, Nat.reduceEqDiff, if_true, if_false, true_implies, false_implies, Bool.false_eq_true, true_and, g35_0]
      refine hM _ _ ?_
      clear hM M
      exact pops_done (hJ32 _ _ (Same.refl _) (wk_same (wk_any ((wk_any ((wk_any ((wk_any ((wk_any ((wk_any ((wk_any ((wk_any ((wk_any ((wk_any (Wk.refl _ _))))))))))))))))))))))
     simp only [List.drop_succ_cons, List.drop_zero, anyAt_cons, anyAt_nil]
     intro hj32 sj32
     replace sj32 := Same.trans s2 sj32
     refine pops_done (hR31 _ ?_)
     clear hR31 R31
     try simp only [thenK]
     refine hN30 _ ?_
     clear hN30 N30
     refine pwp_cond (by simp only [St.eval, upd_at, Nat.reduceEqDiff, if_true, if_false] <;> rfl) (fun c46 => ?_) (fun c46 => ?_)
     ·skip
      have h6 : chkL false l = 6 := by
        rw [textAt_nat hg] at c46
        simp only [Bool.and_eq_true, Bool.or_eq_true, decide_eq_true_eq] at c46
        obtain ⟨h1, h2⟩ := c46
        by_cases hp : textAt l ((i : Int) - 1) = true
        · rw [hst, if_pos ⟨h1, hp⟩]
        · rcases h2 with h2 | h2
          · exact absurd h2 hp
          · rw [← hx0_1]
            exact chk_next hg h1 hf (by simpa using hp) h2
      refine pwp_then fun N34 hN34 => ?_
      refine pwp_reg fun R35 hR35 => ?_
      refine pops_mv (.inr rfl) rfl (by simp only [St.eval, constSlot] <;> rfl) ?_
      refine pops_done (hR35 _ ?_)
      clear hR35 R35
      try simp only [thenK]
      refine hN34 _ ?_
      clear hN34 N34
      refine pwp_ret ?_
      simp only [thenK, blockK, bodyK]
      clear hN29 N29 hN11 N11 hN5 N5
      refine ⟨_, rfl, endFun sj32 ?_⟩
      try simp only [upd_at, Nat.reduceEqDiff, if_true, if_false]
      all_goals
       rw [h6]
     ·skip
      have hnt : ¬ (g.kind = 1 ∧ textAt l ((i : Int) - 1) = true) := by
        rintro ⟨h1, h2⟩
        rw [textAt_nat hg, h2, decide_eq_true h1] at c46
        simp at c46
      rw [if_neg hnt] at hst
      refine pwp_skip ?_
      try simp only [thenK]
      refine hN29 _ ?_
      clear hN29 N29
      refine pwp_then fun N36 hN36 => ?_
      refine pwp_then fun N37 hN37 => ?_
      refine pwp_reg fun R38 hR38 => ?_
      refine pops_to rfl fun M hM => ?_
      simp only [pop, St.eval, upd_at, Nat.reduceEqDiff, if_true, if_false, popFieldAddr, fieldOf, List.drop_succ_cons, List.drop_zero, List.getElem?_toArray, List.getElem?_cons_zero, List.getElem?_cons_succ, Tryd.underlying64, sz61]
      refine ⟨⟨_, rfl⟩, hM _ _ ?_⟩
      clear hM M
      refine pops_to rfl fun M hM => ?_
      simp only [pop, St.eval, upd_at, Nat.reduceEqDiff, if_true, if_false, popLoad, loadK, isAggD, Bool.false_eq_true, Tryd.underlying61, sz61, eq_self]
      refine hM _ _ ?_
      clear hM M
      refine pops_to rfl fun M hM => ?_
      simp only [pop, St.eval, constSlot, upd_at, Nat.reduceEqDiff, if_true, if_false, popCall, List.map_nil, svs, List.mapM_cons, List.mapM_nil, Option.bind_eq_bind, Option.bind_some, Option.pure_def, List.append_nil]
      refine PFun.use (rangesForm_fun W0 g.ranges (by omega)) fun h5 s5 => hM _ _ ?_
      replace s5 := Same.trans sj32 s5
      clear hM M
      refine pops_mv (.inr rfl) rfl (by simp only [St.eval, upd_at, Nat.reduceEqDiff, if_true, if_false] <;> rfl) ?_
      refine pops_done (hR38 _ ?_)
      clear hR38 R38
      try simp only [thenK]
      refine hN37 _ ?_
      clear hN37 N37
      refine pwp_then fun N39 hN39 => ?_
      refine pwp_reg fun R40 hR40 => ?_
      refine pops_mv (.inl rfl) rfl (by simp only [St.eval, upd_at, Nat.reduceEqDiff, if_true, if_false] <;> rfl) ?_
      refine pops_to rfl fun M hM => ?_
      simp only [pop, St.eval, constSlot, upd_at, Nat.reduceEqDiff, if_true, if_false, popBin, binK, intK, eq_self, true_and]
      refine hM _ _ ?_
      clear hM M
      refine pops_done (hR40 _ ?_)
      clear hR40 R40
      try simp only [thenK]
      refine hN39 _ ?_
      clear hN39 N39
      refine pwp_cond (by simp only [St.eval, upd_at, Nat.reduceEqDiff, if_true, if_false] <;> rfl) (fun c51 => ?_) (fun c51 => ?_)
      ·skip
       have hr : rngE none g.ranges ≠ 0 := by simpa using c51
       have hcg : chkG g = rngE none g.ranges := by rw [chkG_eq, if_pos hr]
       rw [hcg, if_pos hr] at hst
       refine pwp_then fun N41 hN41 => ?_
       refine pwp_reg fun R42 hR42 => ?_
       refine pops_mv (.inl rfl) rfl (by simp only [St.eval, upd_at, Nat.reduceEqDiff, if_true, if_false] <;> rfl) ?_
       refine pops_mv (.inr rfl) rfl (by simp only [St.eval, upd_at, Nat.reduceEqDiff, if_true, if_false] <;> rfl) ?_
       refine pops_done (hR42 _ ?_)
       clear hR42 R42
       try simp only [thenK]
       refine hN41 _ ?_
       clear hN41 N41
       refine pwp_ret ?_
       simp only [thenK, blockK, bodyK]
       clear hN36 N36 hN11 N11 hN5 N5
       refine ⟨_, rfl, endFun s5 ?_⟩
       try simp only [upd_at, Nat.reduceEqDiff, if_true, if_false]
       all_goals
        rw [hst]
      ·skip
       have hr : ¬ rngE none g.ranges ≠ 0 := by simpa using c51
       have hcg : chkG g = chkW g.ways := by rw [chkG_eq, if_neg hr]
       rw [hcg] at hst
       refine pwp_skip ?_
       try simp only [thenK]
       refine hN36 _ ?_
       clear hN36 N36
       refine pwp_then fun N43 hN43 => ?_
       refine pwp_reg fun R44 hR44 => ?_
       refine pops_to rfl fun M hM => ?_
       simp only [pop, St.eval, upd_at, Nat.reduceEqDiff, if_true, if_false, popFieldAddr, fieldOf, List.drop_succ_cons, List.drop_zero, List.getElem?_toArray, List.getElem?_cons_zero, List.getElem?_cons_succ, Tryd.underlying64, sz62]
       refine ⟨⟨_, rfl⟩, hM _ _ ?_⟩
       clear hM M
       refine pops_to rfl fun M hM => ?_
       simp only [pop, St.eval, upd_at, Nat.reduceEqDiff, if_true, if_false, popLoad, loadK, isAggD, Bool.false_eq_true, Tryd.underlying62, sz62, eq_self]
       refine hM _ _ ?_
       clear hM M
       refine pops_to rfl fun M hM => ?_
       simp only [pop, St.eval, upd_at, Nat.reduceEqDiff, if_true, if_false, popCall, List.map_cons, List.map_nil, popBuiltin, popLen, lenOfSlot, Tryd.underlying62, eq_self, encW_len]
       refine hM _ _ ?_
       clear hM M
       refine pops_mv (.inl rfl) rfl (by simp only [St.eval, constSlot] <;> rfl) ?_
       refine pops_done (hR44 _ ?_)
       clear hR44 R44
       try simp only [thenK]
       refine hN43 _ ?_
       clear hN43 N43
       refine pwp_block ?_
       refine pwp_loop (fun k σ => ∃ (j : Nat), (k = g.ways.length - j) ∧ (j ≤ g.ways.length) ∧ (chkW (g.ways.drop j) = chkW g.ways) ∧ (Same h σ.hp) ∧ (σ.env 1 = .sv (.one (.rop [.ro false 5 (encL l)]))) ∧ (σ.env 3 = .sv (.one (.clo (.func 66) [.rop [.ro false 5 (encL l)]]))) ∧ (σ.env 12 = .sv (.one (.ro false 5 (encL l)))) ∧ (σ.env 13 = .sv (.one (pint (l.length : Nat)))) ∧ (σ.env 14 = .sv (.one (pint (i : Nat)))) ∧ (σ.env 5 = .sv (.one (.rop [pint g.kind, pstr g.text, pbool g.neg, .ro false 2 (rngPV g.ranges), .ro false 1 (encW g.ways)]))) ∧ (σ.env 54 = .sv (.one (.ro false 1 (encW g.ways)))) ∧ (σ.env 55 = .sv (.one (pint (g.ways.length : Nat)))) ∧ (σ.env 56 = .sv (.one (pint (j : Nat))))) _ ⟨_, .refl _ _, 0, rfl, ?_⟩ ?_
       · exact ⟨Nat.zero_le _, rfl, s5, by simp only [upd_at, Nat.reduceEqDiff, if_false, e0_1], by simp only [upd_at, Nat.reduceEqDiff, if_false, e0_3], by simp only [upd_at, Nat.reduceEqDiff, if_false, e0_12], by simp only [upd_at, Nat.reduceEqDiff, if_false, e0_13], by simp only [upd_at, Nat.reduceEqDiff, if_false, e0_14], by simp only [upd_at, Nat.reduceEqDiff, if_true, if_false], by simp only [upd_at, Nat.reduceEqDiff, if_true, if_false], by first | rfl | (simp only [upd_at, Nat.reduceEqDiff, if_true, if_false]; rfl), by first | rfl | (simp only [upd_at, Nat.reduceEqDiff, if_true, if_false]; rfl)⟩
       ·rintro k ⟨e, hp1⟩ ⟨j, hk1, hx1_0, hx1_1, sl1, e1_1, e1_3, e1_12, e1_13, e1_14, e1_5, e1_54, e1_55, e1_56⟩
        simp only at sl1 e1_1 e1_3 e1_12 e1_13 e1_14 e1_5 e1_54 e1_55 e1_56
        refine pwp_then fun N45 hN45 => ?_
        refine pwp_reg fun R46 hR46 => ?_
        refine pops_to rfl fun M hM => ?_
        simp only [pop, St.eval, popBin, binK, intK, eq_self, true_and, e1_55, e1_56]
        refine hM _ _ ?_
        clear hM M
        refine pops_done (hR46 _ ?_)
        clear hR46 R46
        try simp only [thenK]
        refine hN45 _ ?_
        clear hN45 N45
        refine pwp_then fun N47 hN47 => ?_
        refine pwp_cond (by simp only [St.eval, upd_at, if_true] <;> rfl) (fun c57 => ?_) (fun c57 => ?_)
        ·skip
         have hj : j < g.ways.length := by have := of_decide_eq_true c57; omega
         obtain ⟨v, hv⟩ : ∃ v, g.ways[j]? = some v := ⟨_, List.getElem?_eq_getElem hj⟩
         have hgetw := encW_at hv
         have hlt := way_lt hg hv
         have hws := chkW_step hv
         rw [hx1_1] at hws
         refine pwp_skip ?_
         try simp only [thenK]
         refine hN47 _ ?_
         clear hN47 N47
         refine pwp_then fun N48 hN48 => ?_
         refine pwp_block ?_
         refine pwp_then fun N49 hN49 => ?_
         refine pwp_reg fun R50 hR50 => ?_
         refine pops_to rfl fun M hM => ?_
         simp only [pop, St.eval, upd_at, Nat.reduceEqDiff, if_false, popIndexAddr, Tryd.underlying62, sz22, eq_self, true_and, e1_54, e1_56, hgetw, Int.toNat_natCast]
         refine ⟨Int.natCast_nonneg _, hM _ _ ?_⟩
         clear hM M
         refine pops_to rfl fun M hM => ?_
         simp only [pop, St.eval, upd_at, Nat.reduceEqDiff, if_true, if_false, popLoad, loadK, isAggD, Bool.false_eq_true, Tryd.underlying22, sz22, eq_self]
         refine hM _ _ ?_
         clear hM M
         refine pops_mv (.inr rfl) rfl (by simp only [St.eval, upd_at, Nat.reduceEqDiff, if_true, if_false] <;> rfl) ?_
         refine pops_done (hR50 _ ?_)
         clear hR50 R50
         try simp only [thenK]
         refine hN49 _ ?_
         clear hN49 N49
         refine pwp_then fun N51 hN51 => ?_
         refine pwp_reg fun R52 hR52 => ?_
         refine pops_mv (.inl rfl) rfl (by simp only [St.eval, upd_at, Nat.reduceEqDiff, if_true, if_false] <;> rfl) ?_
         refine pops_to rfl fun M hM => ?_
         simp only [pop, St.eval, constSlot, upd_at, Nat.reduceEqDiff, if_true, if_false, popCall, List.map_nil, svs, List.mapM_cons, List.mapM_nil, Option.bind_eq_bind, Option.bind_some, Option.pure_def, List.append_nil]
         refine PFun.use (ih v hlt (by omega)) fun h6 s6 => hM _ _ ?_
         replace s6 := Same.trans sl1 s6
         clear hM M
         refine pops_mv (.inr rfl) rfl (by simp only [St.eval, upd_at, Nat.reduceEqDiff, if_true, if_false] <;> rfl) ?_
         refine pops_done (hR52 _ ?_)
         clear hR52 R52
         try simp only [thenK]
         refine hN51 _ ?_
         clear hN51 N51
         refine pwp_then fun N53 hN53 => ?_
         refine pwp_reg fun R54 hR54 => ?_
         refine pops_mv (.inl rfl) rfl (by simp only [St.eval, upd_at, Nat.reduceEqDiff, if_true, if_false] <;> rfl) ?_
         refine pops_to rfl fun M hM => ?_
         simp only [pop, St.eval, constSlot, upd_at, Nat.reduceEqDiff, if_true, if_false, popBin, binK, intK, eq_self, true_and]
         refine hM _ _ ?_
         clear hM M
         refine pops_done (hR54 _ ?_)
         clear hR54 R54
         try simp only [thenK]
         refine hN53 _ ?_
         clear hN53 N53
         refine pwp_cond (by simp only [St.eval, upd_at, Nat.reduceEqDiff, if_true, if_false] <;> rfl) (fun c63 => ?_) (fun c63 => ?_)
         ·skip
          have hv0 : chkL false v ≠ 0 := by simpa using c63
          rw [if_pos hv0] at hws
          rw [hws, if_pos hv0] at hst
          refine pwp_then fun N55 hN55 => ?_
          refine pwp_reg fun R56 hR56 => ?_
          refine pops_mv (.inl rfl) rfl (by simp only [St.eval, upd_at, Nat.reduceEqDiff, if_true, if_false] <;> rfl) ?_
          refine pops_mv (.inr rfl) rfl (by simp only [St.eval, upd_at, Nat.reduceEqDiff, if_true, if_false] <;> rfl) ?_
          refine pops_done (hR56 _ ?_)
          clear hR56 R56
          try simp only [thenK]
          refine hN55 _ ?_
          clear hN55 N55
          refine pwp_ret ?_
          simp only [thenK, blockK, bodyK]
          clear hN48 N48 hN11 N11 hN5 N5
          refine ⟨_, rfl, endFun s6 ?_⟩
          try simp only [upd_at, Nat.reduceEqDiff, if_true, if_false]
          all_goals
           rw [hst]
         ·skip
          have hv0 : ¬ chkL false v ≠ 0 := by simpa using c63
          rw [if_neg hv0] at hws
          refine pwp_skip ?_
          try simp only [blockK, thenK]
          try simp only [thenK, scopeK]
          refine hN48 _ ?_
          clear hN48 N48
          refine pwp_reg fun R57 hR57 => ?_
          refine pops_to rfl fun M hM => ?_
          simp only [pop, St.eval, constSlot, upd_at, Nat.reduceEqDiff, if_false, popBin, binK, intK, eq_self, true_and, e1_56]
          refine hM _ _ ?_
          clear hM M
          refine pops_mv (.inl rfl) rfl (by simp only [St.eval, upd_at, Nat.reduceEqDiff, if_true, if_false] <;> rfl) ?_
          refine pops_done (hR57 _ ?_)
          clear hR57 R57
          try simp only [thenK]
          exact ⟨_, by omega, _, .refl _ _, j + 1, rfl, by omega, hws.symm, s6, by simp only [upd_at, Nat.reduceEqDiff, if_false, e1_1], by simp only [upd_at, Nat.reduceEqDiff, if_false, e1_3], by simp only [upd_at, Nat.reduceEqDiff, if_false, e1_12], by simp only [upd_at, Nat.reduceEqDiff, if_false, e1_13], by simp only [upd_at, Nat.reduceEqDiff, if_false, e1_14], by simp only [upd_at, Nat.reduceEqDiff, if_false, e1_5], by simp only [upd_at, Nat.reduceEqDiff, if_false, e1_54], by simp only [upd_at, Nat.reduceEqDiff, if_false, e1_55], by simp only [upd_at, Nat.reduceEqDiff, if_true, if_false, e1_56]; rw [wrap_succ (by omega)]⟩
        ·skip
         obtain rfl : j = g.ways.length := by have := of_decide_eq_false c57; omega
         rw [List.drop_length, chkW] at hx1_1
         rw [← hx1_1, if_neg (by decide)] at hst
         refine pwp_exit ?_
         try simp only [thenK, blockK, if_true, Nat.reduceEqDiff, if_false]
         clear hN47 N47
         try simp only [blockK, scopeK, if_true, Nat.reduceEqDiff, if_false, thenK]
         try simp only [blockK, thenK, scopeK]
         try simp only [thenK, scopeK]
         refine hN11 _ ?_
         clear hN11 N11
         refine pwp_reg fun R58 hR58 => ?_
         refine pops_to rfl fun M hM => ?_
         simp only [pop, St.eval, constSlot, upd_at, Nat.reduceEqDiff, if_false, popBin, binK, intK, eq_self, true_and, e1_14]
         refine hM _ _ ?_
         clear hM M
         refine pops_mv (.inl rfl) rfl (by simp only [St.eval, upd_at, Nat.reduceEqDiff, if_true, if_false] <;> rfl) ?_
         refine pops_done (hR58 _ ?_)
         clear hR58 R58
         try simp only [thenK]
         exact ⟨_, by omega, _, .refl _ _, i + 1, rfl, by omega, hst.symm, sl1, by simp only [upd_at, Nat.reduceEqDiff, if_false, e1_1], by simp only [upd_at, Nat.reduceEqDiff, if_false, e1_3], by simp only [upd_at, Nat.reduceEqDiff, if_false, e1_12], by simp only [upd_at, Nat.reduceEqDiff, if_false, e1_13], by simp only [upd_at, Nat.reduceEqDiff, if_true, if_false, e1_14]; rw [wrap_succ (by omega)]⟩
  ·skip
   obtain rfl : i = l.length := by have := of_decide_eq_false c15; omega
   rw [List.drop_length, chkL] at hx0_1
   refine pwp_exit ?_
   try simp only [thenK, blockK, if_true]
   clear hN10 N10
   try simp only [blockK, scopeK, if_true, Nat.reduceEqDiff, if_false, thenK]
   try simp only [thenK, scopeK]
   refine hN5 _ ?_
   clear hN5 N5
   refine pwp_then fun N59 hN59 => ?_
   refine pwp_reg fun R60 hR60 => ?_
   refine pops_mv (.inr rfl) rfl (by simp only [St.eval, constSlot] <;> rfl) ?_
   refine pops_done (hR60 _ ?_)
   clear hR60 R60
   try simp only [thenK]
   refine hN59 _ ?_
   clear hN59 N59
   refine pwp_ret ?_
   simp only [bodyK]
   refine ⟨_, rfl, endFun sl0 ?_⟩
   try simp only [upd_at, Nat.reduceEqDiff, if_true, if_false]
   all_goals
    rw [← hx0_1]
theorem nm41 : (Tryd.f41.name == "runtime.NumGoroutine") = false := by kernel_rfl
set_option maxHeartbeats 4000000 in
theorem starsMeet_fun1 (W0 : World) (l : List GPart) (hl : lW l ≤ 1048576) (ih : ∀ l' : List GPart, lW l' < lW l → lW l' ≤ 1048576 → PFun Tryd.prog W0 41 [.one (.ro false 5 (encL l'))] (.sv (.one (pbool (stL false l'))))) :
  PFun Tryd.prog W0 41 [.one (.ro false 5 (encL l))] (.sv (.one (pbool (stL false l)))) := by
 intro h
 have hln := lW_len l
 refine pcalls1 (n := 42) Tryd.func41 rfl nm41 rfl fun hb => ?_
 refine pwp_then fun N1 hN1 => ?_
 refine pwp_reg fun R2 hR2 => ?_
 refine pops_mv (.inr rfl) rfl (by simp only [St.eval, constSlot] <;> rfl) ?_
 refine pops_done (hR2 _ ?_)
 clear hR2 R2
 try simp only [thenK]
 refine hN1 _ ?_
 clear hN1 N1
 refine pwp_then fun N3 hN3 => ?_
 refine pwp_reg fun R4 hR4 => ?_
 refine pops_mv (.inr rfl) rfl (by simp only [St.eval] <;> rfl) ?_
 refine pops_done (hR4 _ ?_)
 clear hR4 R4
 try simp only [thenK]
 refine hN3 _ ?_
 clear hN3 N3
 refine pwp_then fun N5 hN5 => ?_
 refine pwp_then fun N6 hN6 => ?_
 refine pwp_reg fun R7 hR7 => ?_
 refine pops_mv (.inl rfl) rfl (by simp only [St.eval, upd_at, Nat.reduceEqDiff, if_true, if_false] <;> rfl) ?_
 refine pops_to rfl fun M hM => ?_
 simp only [pop, St.eval, upd_at, Nat.reduceEqDiff, if_true, if_false, popCall, List.map_cons, List.map_nil, popBuiltin, popLen, lenOfSlot, Tryd.underlying22, eq_self, encL_len]
 refine hM _ _ ?_
 clear hM M
 refine pops_mv (.inl rfl) rfl (by simp only [St.eval, constSlot] <;> rfl) ?_
 refine pops_done (hR7 _ ?_)
 clear hR7 R7
 try simp only [thenK]
 refine hN6 _ ?_
 clear hN6 N6
 refine pwp_block ?_
 refine pwp_loop (fun k σ => ∃ (i : Nat), (k = l.length - i) ∧ (i ≤ l.length) ∧ (stL (starAt l i) (l.drop i) = stL false l) ∧ (Same h σ.hp) ∧ (σ.env 0 = .sv (.one (.ro false 5 (encL l)))) ∧ (σ.env 3 = .sv (.one (.clo (.func 69) []))) ∧ (σ.env 8 = .sv (.one (.ro false 5 (encL l)))) ∧ (σ.env 9 = .sv (.one (pint (l.length : Nat)))) ∧ (σ.env 10 = .sv (.one (pint (i : Nat))))) _ ⟨_, .refl _ _, 0, rfl, ?_⟩ ?_
 · exact ⟨Nat.zero_le _, rfl, (Same.refl _), by simp only [upd_at, Nat.reduceEqDiff, if_true, if_false], by simp only [upd_at, Nat.reduceEqDiff, if_true, if_false], by simp only [upd_at, Nat.reduceEqDiff, if_true, if_false], by first | rfl | (simp only [upd_at, Nat.reduceEqDiff, if_true, if_false]; rfl), by first | rfl | (simp only [upd_at, Nat.reduceEqDiff, if_true, if_false]; rfl)⟩
 ·rintro k ⟨e, hp0⟩ ⟨i, hk0, hx0_0, hx0_1, sl0, e0_0, e0_3, e0_8, e0_9, e0_10⟩
  simp only at sl0 e0_0 e0_3 e0_8 e0_9 e0_10
  refine pwp_then fun N8 hN8 => ?_
  refine pwp_reg fun R9 hR9 => ?_
  refine pops_to rfl fun M hM => ?_
  simp only [pop, St.eval, popBin, binK, intK, eq_self, true_and, e0_9, e0_10]
  refine hM _ _ ?_
  clear hM M
  refine pops_done (hR9 _ ?_)
  clear hR9 R9
  try simp only [thenK]
  refine hN8 _ ?_
  clear hN8 N8
  refine pwp_then fun N10 hN10 => ?_
  refine pwp_cond (by simp only [St.eval, upd_at, if_true] <;> rfl) (fun c11 => ?_) (fun c11 => ?_)
  ·skip
   have hi : i < l.length := by have := of_decide_eq_true c11; omega
   obtain ⟨g, hg⟩ : ∃ g, l[i]? = some g := ⟨_, List.getElem?_eq_getElem hi⟩
   have hget := encL_at hg
   rw [encG_eq] at hget
   have hgw := lW_at hg
   have hge := gW_eq g
   have hwl := wW_len g.ways
   have hrl := rng_len g.ranges
   have hst := st_step hg
   rw [hx0_1] at hst
   refine pwp_skip ?_
   try simp only [thenK]
   refine hN10 _ ?_
   clear hN10 N10
   refine pwp_then fun N11 hN11 => ?_
   refine pwp_block ?_
   refine pwp_then fun N12 hN12 => ?_
   refine pwp_reg fun R13 hR13 => ?_
   refine pops_mv (.inl rfl) rfl (by simp only [St.eval, upd_at, Nat.reduceEqDiff, if_false, e0_10] <;> rfl) ?_
   refine pops_to rfl fun M hM => ?_
   simp only [pop, St.eval, upd_at, Nat.reduceEqDiff, if_false, popIndexAddr, Tryd.underlying22, sz64, eq_self, true_and, e0_8, e0_10, hget, Int.toNat_natCast]
   refine ⟨Int.natCast_nonneg _, hM _ _ ?_⟩
   clear hM M
   refine pops_to rfl fun M hM => ?_
   simp only [pop, St.eval, upd_at, Nat.reduceEqDiff, if_true, if_false, List.length_cons, List.length_nil, Nat.zero_add, Nat.reduceAdd, Nat.reduceLeDiff, List.take_succ_cons, List.take_nil, popLoad, loadK, isAggD, Tryd.underlying64, sz64, eq_self, true_and]
   refine hM _ _ ?_
   clear hM M
   refine pops_valloc rfl ze64 (zs := [PV.val (.int .i64 0), PV.val (.string ⟨#[]⟩), PV.val (.bool false), PV.val (.slice none 0 0), PV.val (.slice none 0 0)]) (by kernel_rfl) (by exact Nat.succ_pos _) (fun id14 hid14 => ?_)
   refine pops_mv (.inr rfl) rfl (by simp only [St.eval, upd_at, Nat.reduceEqDiff, if_true, if_false] <;> rfl) ?_
   refine pops_vstore (zs := [PV.val (.int .i64 0), PV.val (.string ⟨#[]⟩), PV.val (.bool false), PV.val (.slice none 0 0), PV.val (.slice none 0 0)]) (hpOk.same hb sl0) hid14 (by simp only [upd_at, Nat.reduceEqDiff, if_true, if_false]) (by simp only [St.eval, slotCells, upd_at, Nat.reduceEqDiff, if_true, if_false] <;> rfl) (by rfl) (by rw [sz64]; rfl) (fun hv15 sv15 => ?_)
   replace sv15 := Same.trans sl0 sv15
   refine pops_done (hR13 _ ?_)
   clear hR13 R13
   try simp only [thenK]
   refine hN12 _ ?_
   clear hN12 N12
   refine pwp_then fun N16 hN16 => ?_
   refine pwp_then fun N17 hN17 => ?_
   refine pwp_reg fun R18 hR18 => ?_
   refine pops_mv (.inl rfl) rfl (by simp only [St.eval, upd_at, Nat.reduceEqDiff, if_true, if_false] <;> rfl) ?_
   refine pops_to rfl fun M hM => ?_
   simp only [pop, St.eval, constSlot, upd_at, Nat.reduceEqDiff, if_true, if_false, popBin, binK, intK, eq_self, true_and]
   refine hM _ _ ?_
   clear hM M
   refine pops_mv (.inl rfl) rfl (by simp only [St.eval, upd_at, Nat.reduceEqDiff, if_true, if_false] <;> rfl) ?_
   apply pops_and 4 17 21 [18, 19, 20] (by simp only [upd_at, Nat.reduceEqDiff, if_true, if_false] <;> rfl)
   ·skip
    intro g17_0 J19 hJ19
    simp only [List.take_succ_cons, List.take_zero]
    simp only [anyAt_cons, anyAt_nil] at hJ19
    refine pops_mvg (.inl rfl) rfl rfl (by simp only [upd_at, Nat.reduceEqDiff, if_true, if_false, g17_0]) (by simp only [St.eval, upd_at, Nat.reduceEqDiff, if_false, e0_3, g17_0] <;> rfl) ?_
    refine pops_do rfl rfl (by simp only [upd_at, Nat.reduceEqDiff, if_true, if_false, g17_0]) fun M hM => ?_
    simp only [pop, St.eval, upd_at, Nat.reduceEqDiff, if_true, if_false, List.length_cons, List.length_nil, Nat.zero_add, Nat.reduceAdd, Nat.reduceLeDiff, List.take_succ_cons, List.take_nil, popLoad, loadK, isAggD, Tryd.underlying64, sz64, eq_self, true_and, g17_0]
    refine hM _ _ ?_
    clear hM M
    refine pops_do rfl rfl (by simp only [upd_at, Nat.reduceEqDiff, if_true, if_false, g17_0]) fun M hM => ?_
    simp only [pop, St.eval, constSlot, upd_at, Nat.reduceEqDiff, if_true, if_false, popCall, List.map_nil, svs, List.mapM_cons, List.mapM_nil, Option.bind_eq_bind, Option.bind_some, Option.pure_def, List.append_nil, g17_0]
    refine PFun.use (star_fun W0 g) fun h1 s1 => hM _ _ ?_
    replace s1 := Same.trans (Same.refl _) s1
    clear hM M
    refine pops_to rfl fun M hM => ?_
    simp only [pop, St.eval, constSlot, upd_at, Nat.reduceEqDiff, if_true, if_false, true_implies, false_implies, Bool.true_eq_false, and_true, g17_0]
    refine hM _ _ ?_
    clear hM M
    exact pops_done (hJ19 _ _ s1 (wk_same (wk_any ((wk_any ((wk_any (Wk.refl _ _))))))))
   ·skip
    intro g17_0 J19 hJ19
    simp only [List.take_succ_cons, List.take_zero]
    simp only [anyAt_cons, anyAt_nil] at hJ19
    refine pops_off (b := false) rfl rfl (by simp only [upd_at, Nat.reduceEqDiff, if_true, if_false, g17_0]) (by decide) ?_
    refine pops_off (b := false) rfl rfl (by simp only [upd_at, Nat.reduceEqDiff, if_true, if_false, g17_0]) (by decide) ?_
    refine pops_off (b := false) rfl rfl (by simp only [upd_at, Nat.reduceEqDiff, if_true, if_false, g17_0]) (by decide) ?_
    refine pops_to rfl fun M hM => ?_
    simp only [pop, St.eval, constSlot, upd_at, Nat.reduceEqDiff, if_true, if_false, true_implies, false_implies, Bool.false_eq_true, true_and, g17_0]
    refine hM _ _ ?_
    clear hM M
    exact pops_done (hJ19 _ _ (Same.refl _) (wk_same (wk_any ((wk_any ((wk_any (Wk.refl _ _))))))))
   simp only [List.drop_succ_cons, List.drop_zero, anyAt_cons, anyAt_nil]
   intro hj19 sj19
   replace sj19 := Same.trans sv15 sj19
   refine pops_mv (.inl rfl) rfl (by simp only [St.eval, upd_at, Nat.reduceEqDiff, if_true, if_false] <;> rfl) ?_
   apply pops_and 8 22 30 [23, 24, 25, 26, 27, 28, 29] (by simp only [upd_at, Nat.reduceEqDiff, if_true, if_false] <;> rfl)
   ·skip
    intro g22_0 J20 hJ20
    simp only [List.take_succ_cons, List.take_zero]
    simp only [anyAt_cons, anyAt_nil] at hJ20
    have hq9 := g22_0
    simp only [Bool.and_eq_true, decide_eq_true_eq] at hq9
    have hi0 : 0 < i := by omega
    have hw26 := wrapp (i := i) (by omega) hi0
    have hgp := encL_prev hi hi0
    rw [encG_eq] at hgp
    refine pops_mvg (.inl rfl) rfl rfl (by simp only [upd_at, Nat.reduceEqDiff, if_true, if_false, g22_0]) (by simp only [St.eval, upd_at, Nat.reduceEqDiff, if_false, e0_3, g22_0] <;> rfl) ?_
    refine pops_mvg (.inl rfl) rfl rfl (by simp only [upd_at, Nat.reduceEqDiff, if_true, if_false, g22_0]) (by simp only [St.eval, upd_at, Nat.reduceEqDiff, if_false, e0_0, g22_0] <;> rfl) ?_
    refine pops_mvg (.inl rfl) rfl rfl (by simp only [upd_at, Nat.reduceEqDiff, if_true, if_false, g22_0]) (by simp only [St.eval, upd_at, Nat.reduceEqDiff, if_true, if_false, g22_0] <;> rfl) ?_
    refine pops_do rfl rfl (by simp only [upd_at, Nat.reduceEqDiff, if_true, if_false, g22_0]) fun M hM => ?_
    simp only [pop, St.eval, constSlot, upd_at, Nat.reduceEqDiff, if_true, if_false, popBin, binK, intK, eq_self, true_and, g22_0, hw26]
    refine hM _ _ ?_
    clear hM M
    refine pops_do rfl rfl (by simp only [upd_at, Nat.reduceEqDiff, if_true, if_false, g22_0]) fun M hM => ?_
    simp only [pop, St.eval, upd_at, Nat.reduceEqDiff, if_true, if_false, popIndexAddr, Tryd.underlying22, sz64, eq_self, true_and, g22_0, hgp, Int.toNat_natCast]
    refine ⟨Int.natCast_nonneg _, hM _ _ ?_⟩
    clear hM M
    refine pops_do rfl rfl (by simp only [upd_at, Nat.reduceEqDiff, if_true, if_false, g22_0]) fun M hM => ?_
    simp only [pop, St.eval, upd_at, Nat.reduceEqDiff, if_true, if_false, List.length_cons, List.length_nil, Nat.zero_add, Nat.reduceAdd, Nat.reduceLeDiff, List.take_succ_cons, List.take_nil, popLoad, loadK, isAggD, Tryd.underlying64, sz64, eq_self, true_and, g22_0]
    refine hM _ _ ?_
    clear hM M
    refine pops_do rfl rfl (by simp only [upd_at, Nat.reduceEqDiff, if_true, if_false, g22_0]) fun M hM => ?_
    simp only [pop, St.eval, constSlot, upd_at, Nat.reduceEqDiff, if_true, if_false, popCall, List.map_nil, svs, List.mapM_cons, List.mapM_nil, Option.bind_eq_bind, Option.bind_some, Option.pure_def, List.append_nil, g22_0]
    refine PFun.use (star_fun W0 (l.getD (i - 1) dG)) fun h2 s2 => hM _ _ ?_
    replace s2 := Same.trans (Same.refl _) s2
    clear hM M
    refine pops_to rfl fun M hM => ?_
    simp only [pop, St.eval, constSlot, upd_at, Nat.reduceEqDiff, if_true, if_false, true_implies, false_implies, Bool.true_eq_false, and_true, g22_0]
    refine hM _ _ ?_
    clear hM M
    exact pops_done (hJ20 _ _ s2 (wk_same (wk_any ((wk_any ((wk_any ((wk_any ((wk_any ((wk_any ((wk_any (Wk.refl _ _))))))))))))))))
   ·skip
    intro g22_0 J20 hJ20
    simp only [List.take_succ_cons, List.take_zero]
    simp only [anyAt_cons, anyAt_nil] at hJ20
    refine pops_off (b := false) rfl rfl (by simp only [upd_at, Nat.reduceEqDiff, if_true, if_false, g22_0]) (by decide) ?_
    refine pops_off (b := false) rfl rfl (by simp only [upd_at, Nat.reduceEqDiff, if_true, if_false, g22_0]) (by decide) ?_
    refine pops_off (b := false) rfl rfl (by simp only [upd_at, Nat.reduceEqDiff, if_true, if_false, g22_0]) (by decide) ?_
    refine pops_off (b := false) rfl rfl (by simp only [upd_at, Nat.reduceEqDiff, if_true, if_false, g22_0]) (by decide) ?_
    refine pops_off (b := false) rfl rfl (by simp only [upd_at, Nat.reduceEqDiff, if_true, if_false, g22_0]) (by decide) ?_
    refine pops_off (b := false) rfl rfl (by simp only [upd_at, Nat.reduceEqDiff, if_true, if_false, g22_0]) (by decide) ?_
    refine pops_off (b := false) rfl rfl (by simp only [upd_at, Nat.reduceEqDiff, if_true, if_false, g22_0]) (by decide) ?_
    refine pops_to rfl fun M hM => ?_
    simp only [pop, St.eval, constSlot, upd_at, Nat.reduceEqDiff, if_true, if_false, true_implies, false_implies, Bool.false_eq_true, true_and, g22_0]
    refine hM _ _ ?_
    clear hM M
    exact pops_done (hJ20 _ _ (Same.refl _) (wk_same (wk_any ((wk_any ((wk_any ((wk_any ((wk_any ((wk_any ((wk_any (Wk.refl _ _))))))))))))))))
   simp only [List.drop_succ_cons, List.drop_zero, anyAt_cons, anyAt_nil]
   intro hj20 sj20
   replace sj20 := Same.trans sj19 sj20
   refine pops_done (hR18 _ ?_)
   clear hR18 R18
   try simp only [thenK]
   refine hN17 _ ?_
   clear hN17 N17
   refine pwp_cond (by simp only [St.eval, upd_at, Nat.reduceEqDiff, if_true, if_false] <;> rfl) (fun c30 => ?_) (fun c30 => ?_)
   ·skip
    have hs : (starAt l i && starB g) = true := by
      simp only [Bool.and_eq_true, decide_eq_true_eq] at c30
      unfold starAt
      simp only [Bool.and_eq_true, decide_eq_true_eq]
      exact ⟨⟨by omega, c30.2⟩, c30.1.2⟩
    rw [hs, Bool.true_or, Bool.true_or] at hst
    refine pwp_then fun N21 hN21 => ?_
    refine pwp_reg fun R22 hR22 => ?_
    refine pops_mv (.inr rfl) rfl (by simp only [St.eval, constSlot] <;> rfl) ?_
    refine pops_done (hR22 _ ?_)
    clear hR22 R22
    try simp only [thenK]
    refine hN21 _ ?_
    clear hN21 N21
    refine pwp_ret ?_
    simp only [thenK, blockK, bodyK]
    clear hN16 N16 hN11 N11 hN5 N5
    refine ⟨_, rfl, endFun sj20 ?_⟩
    try simp only [upd_at, Nat.reduceEqDiff, if_true, if_false]
    all_goals
     rw [hst]
   ·skip
    have hs : (starAt l i && starB g) = false := by
      cases he : (starAt l i && starB g) with
      | false => rfl
      | true =>
        unfold starAt at he
        simp only [Bool.and_eq_true, decide_eq_true_eq] at he
        rw [he.2, he.1.2, decide_eq_true (by omega)] at c30
        exact absurd c30 (by decide)
    rw [hs, Bool.false_or] at hst
    refine pwp_skip ?_
    try simp only [thenK]
    refine hN16 _ ?_
    clear hN16 N16
    refine pwp_then fun N23 hN23 => ?_
    refine pwp_reg fun R24 hR24 => ?_
    refine pops_to rfl fun M hM => ?_
    simp only [pop, St.eval, upd_at, Nat.reduceEqDiff, if_true, if_false, popFieldAddr, fieldOf, List.drop_succ_cons, List.drop_zero, List.getElem?_toArray, List.getElem?_cons_zero, List.getElem?_cons_succ, Tryd.underlying64, sz62]
    refine ⟨⟨_, rfl⟩, hM _ _ ?_⟩
    clear hM M
    refine pops_to rfl fun M hM => ?_
    simp only [pop, St.eval, upd_at, Nat.reduceEqDiff, if_true, if_false, popLoad, loadK, isAggD, Bool.false_eq_true, Tryd.underlying62, sz62, eq_self]
    refine hM _ _ ?_
    clear hM M
    refine pops_to rfl fun M hM => ?_
    simp only [pop, St.eval, upd_at, Nat.reduceEqDiff, if_true, if_false, popCall, List.map_cons, List.map_nil, popBuiltin, popLen, lenOfSlot, Tryd.underlying62, eq_self, encW_len]
    refine hM _ _ ?_
    clear hM M
    refine pops_mv (.inl rfl) rfl (by simp only [St.eval, constSlot] <;> rfl) ?_
    refine pops_done (hR24 _ ?_)
    clear hR24 R24
    try simp only [thenK]
    refine hN23 _ ?_
    clear hN23 N23
    refine pwp_block ?_
    refine pwp_loop (fun k σ => ∃ (j : Nat), (k = g.ways.length - j) ∧ (j ≤ g.ways.length) ∧ (stW (g.ways.drop j) = stW g.ways) ∧ (Same h σ.hp) ∧ (σ.env 0 = .sv (.one (.ro false 5 (encL l)))) ∧ (σ.env 3 = .sv (.one (.clo (.func 69) []))) ∧ (σ.env 8 = .sv (.one (.ro false 5 (encL l)))) ∧ (σ.env 9 = .sv (.one (pint (l.length : Nat)))) ∧ (σ.env 10 = .sv (.one (pint (i : Nat)))) ∧ (σ.env 5 = .sv (.one (.rop [pint g.kind, pstr g.text, pbool g.neg, .ro false 2 (rngPV g.ranges), .ro false 1 (encW g.ways)]))) ∧ (σ.env 32 = .sv (.one (.ro false 1 (encW g.ways)))) ∧ (σ.env 33 = .sv (.one (pint (g.ways.length : Nat)))) ∧ (σ.env 34 = .sv (.one (pint (j : Nat))))) _ ⟨_, .refl _ _, 0, rfl, ?_⟩ ?_
    · exact ⟨Nat.zero_le _, rfl, sj20, by simp only [upd_at, Nat.reduceEqDiff, if_false, e0_0], by simp only [upd_at, Nat.reduceEqDiff, if_false, e0_3], by simp only [upd_at, Nat.reduceEqDiff, if_false, e0_8], by simp only [upd_at, Nat.reduceEqDiff, if_false, e0_9], by simp only [upd_at, Nat.reduceEqDiff, if_false, e0_10], by simp only [upd_at, Nat.reduceEqDiff, if_true, if_false], by simp only [upd_at, Nat.reduceEqDiff, if_true, if_false], by first | rfl | (simp only [upd_at, Nat.reduceEqDiff, if_true, if_false]; rfl), by first | rfl | (simp only [upd_at, Nat.reduceEqDiff, if_true, if_false]; rfl)⟩
    ·rintro k ⟨e, hp1⟩ ⟨j, hk1, hx1_0, hx1_1, sl1, e1_0, e1_3, e1_8, e1_9, e1_10, e1_5, e1_32, e1_33, e1_34⟩
     simp only at sl1 e1_0 e1_3 e1_8 e1_9 e1_10 e1_5 e1_32 e1_33 e1_34
     refine pwp_then fun N25 hN25 => ?_
     refine pwp_reg fun R26 hR26 => ?_
     refine pops_to rfl fun M hM => ?_
     simp only [pop, St.eval, popBin, binK, intK, eq_self, true_and, e1_33, e1_34]
     refine hM _ _ ?_
     clear hM M
     refine pops_done (hR26 _ ?_)
     clear hR26 R26
     try simp only [thenK]
     refine hN25 _ ?_
     clear hN25 N25
     refine pwp_then fun N27 hN27 => ?_
     refine pwp_cond (by simp only [St.eval, upd_at, if_true] <;> rfl) (fun c35 => ?_) (fun c35 => ?_)
     ·skip
      have hj : j < g.ways.length := by have := of_decide_eq_true c35; omega
      obtain ⟨v, hv⟩ : ∃ v, g.ways[j]? = some v := ⟨_, List.getElem?_eq_getElem hj⟩
      have hgetw := encW_at hv
      have hlt := way_lt hg hv
      have hws := stW_step hv
      rw [hx1_1] at hws
      refine pwp_skip ?_
      try simp only [thenK]
      refine hN27 _ ?_
      clear hN27 N27
      refine pwp_then fun N28 hN28 => ?_
      refine pwp_block ?_
      refine pwp_then fun N29 hN29 => ?_
      refine pwp_reg fun R30 hR30 => ?_
      refine pops_to rfl fun M hM => ?_
      simp only [pop, St.eval, upd_at, Nat.reduceEqDiff, if_false, popIndexAddr, Tryd.underlying62, sz22, eq_self, true_and, e1_32, e1_34, hgetw, Int.toNat_natCast]
      refine ⟨Int.natCast_nonneg _, hM _ _ ?_⟩
      clear hM M
      refine pops_to rfl fun M hM => ?_
      simp only [pop, St.eval, upd_at, Nat.reduceEqDiff, if_true, if_false, popLoad, loadK, isAggD, Bool.false_eq_true, Tryd.underlying22, sz22, eq_self]
      refine hM _ _ ?_
      clear hM M
      refine pops_mv (.inr rfl) rfl (by simp only [St.eval, upd_at, Nat.reduceEqDiff, if_true, if_false] <;> rfl) ?_
      refine pops_done (hR30 _ ?_)
      clear hR30 R30
      try simp only [thenK]
      refine hN29 _ ?_
      clear hN29 N29
      refine pwp_then fun N31 hN31 => ?_
      refine pwp_reg fun R32 hR32 => ?_
      refine pops_mv (.inl rfl) rfl (by simp only [St.eval, upd_at, Nat.reduceEqDiff, if_true, if_false] <;> rfl) ?_
      refine pops_to rfl fun M hM => ?_
      simp only [pop, St.eval, constSlot, upd_at, Nat.reduceEqDiff, if_true, if_false, popCall, List.map_nil, svs, List.mapM_cons, List.mapM_nil, Option.bind_eq_bind, Option.bind_some, Option.pure_def, List.append_nil]
      refine PFun.use (ih v hlt (by omega)) fun h3 s3 => hM _ _ ?_
      replace s3 := Same.trans sl1 s3
      clear hM M
      refine pops_done (hR32 _ ?_)
      clear hR32 R32
      try simp only [thenK]
      refine hN31 _ ?_
      clear hN31 N31
      refine pwp_cond (by simp only [St.eval, upd_at, Nat.reduceEqDiff, if_true, if_false] <;> rfl) (fun c39 => ?_) (fun c39 => ?_)
      ·skip
       rw [c39, Bool.true_or] at hws
       rw [hws, Bool.true_or] at hst
       refine pwp_then fun N33 hN33 => ?_
       refine pwp_reg fun R34 hR34 => ?_
       refine pops_mv (.inr rfl) rfl (by simp only [St.eval, constSlot] <;> rfl) ?_
       refine pops_done (hR34 _ ?_)
       clear hR34 R34
       try simp only [thenK]
       refine hN33 _ ?_
       clear hN33 N33
       refine pwp_ret ?_
       simp only [thenK, blockK, bodyK]
       clear hN28 N28 hN11 N11 hN5 N5
       refine ⟨_, rfl, endFun s3 ?_⟩
       try simp only [upd_at, Nat.reduceEqDiff, if_true, if_false]
       all_goals
        rw [hst]
      ·skip
       rw [c39, Bool.false_or] at hws
       refine pwp_skip ?_
       try simp only [blockK, thenK]
       try simp only [thenK, scopeK]
       refine hN28 _ ?_
       clear hN28 N28
       refine pwp_reg fun R35 hR35 => ?_
       refine pops_to rfl fun M hM => ?_
       simp only [pop, St.eval, constSlot, upd_at, Nat.reduceEqDiff, if_false, popBin, binK, intK, eq_self, true_and, e1_34]
       refine hM _ _ ?_
       clear hM M
       refine pops_mv (.inl rfl) rfl (by simp only [St.eval, upd_at, Nat.reduceEqDiff, if_true, if_false] <;> rfl) ?_
       refine pops_done (hR35 _ ?_)
       clear hR35 R35
       try simp only [thenK]
       exact ⟨_, by omega, _, .refl _ _, j + 1, rfl, by omega, hws.symm, s3, by simp only [upd_at, Nat.reduceEqDiff, if_false, e1_0], by simp only [upd_at, Nat.reduceEqDiff, if_false, e1_3], by simp only [upd_at, Nat.reduceEqDiff, if_false, e1_8], by simp only [upd_at, Nat.reduceEqDiff, if_false, e1_9], by simp only [upd_at, Nat.reduceEqDiff, if_false, e1_10], by simp only [upd_at, Nat.reduceEqDiff, if_false, e1_5], by simp only [upd_at, Nat.reduceEqDiff, if_false, e1_32], by simp only [upd_at, Nat.reduceEqDiff, if_false, e1_33], by simp only [upd_at, Nat.reduceEqDiff, if_true, if_false, e1_34]; rw [wrap_succ (by omega)]⟩
     ·skip
      obtain rfl : j = g.ways.length := by have := of_decide_eq_false c35; omega
      rw [List.drop_length, stW] at hx1_1
      rw [← hx1_1, Bool.false_or] at hst
      refine pwp_exit ?_
      try simp only [thenK, blockK, if_true, Nat.reduceEqDiff, if_false]
      clear hN27 N27
      try simp only [blockK, scopeK, if_true, Nat.reduceEqDiff, if_false, thenK]
      try simp only [blockK, thenK, scopeK]
      try simp only [thenK, scopeK]
      refine hN11 _ ?_
      clear hN11 N11
      refine pwp_reg fun R36 hR36 => ?_
      refine pops_to rfl fun M hM => ?_
      simp only [pop, St.eval, constSlot, upd_at, Nat.reduceEqDiff, if_false, popBin, binK, intK, eq_self, true_and, e1_10]
      refine hM _ _ ?_
      clear hM M
      refine pops_mv (.inl rfl) rfl (by simp only [St.eval, upd_at, Nat.reduceEqDiff, if_true, if_false] <;> rfl) ?_
      refine pops_done (hR36 _ ?_)
      clear hR36 R36
      try simp only [thenK]
      exact ⟨_, by omega, _, .refl _ _, i + 1, rfl, by omega, hst.symm, sl1, by simp only [upd_at, Nat.reduceEqDiff, if_false, e1_0], by simp only [upd_at, Nat.reduceEqDiff, if_false, e1_3], by simp only [upd_at, Nat.reduceEqDiff, if_false, e1_8], by simp only [upd_at, Nat.reduceEqDiff, if_false, e1_9], by simp only [upd_at, Nat.reduceEqDiff, if_true, if_false, e1_10]; rw [wrap_succ (by omega)]⟩
  ·skip
   obtain rfl : i = l.length := by have := of_decide_eq_false c11; omega
   rw [List.drop_length, stL] at hx0_1
   refine pwp_exit ?_
   try simp only [thenK, blockK, if_true]
   clear hN10 N10
   try simp only [blockK, scopeK, if_true, Nat.reduceEqDiff, if_false, thenK]
   try simp only [thenK, scopeK]
   refine hN5 _ ?_
   clear hN5 N5
   refine pwp_then fun N37 hN37 => ?_
   refine pwp_reg fun R38 hR38 => ?_
   refine pops_mv (.inr rfl) rfl (by simp only [St.eval, constSlot] <;> rfl) ?_
   refine pops_done (hR38 _ ?_)
   clear hR38 R38
   try simp only [thenK]
   refine hN37 _ ?_
   clear hN37 N37
   refine pwp_ret ?_
   simp only [bodyK]
   refine ⟨_, rfl, endFun sl0 ?_⟩
   try simp only [upd_at, Nat.reduceEqDiff, if_true, if_false]
   all_goals
    rw [← hx0_1]
end Go.Pw
