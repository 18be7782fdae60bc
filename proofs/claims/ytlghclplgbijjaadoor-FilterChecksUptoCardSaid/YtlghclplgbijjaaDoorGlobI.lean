/- Own work: part of the proof of the row YtlghclplgbijjaaDoorRowFilterChecksUpto; no condition of its own. -/
import Derived.Test.YtlghclplgbijjaaDoorGlobC
import Derived.Test.YtlghclplgbijjaaDoorGFacts
namespace Go.Pw
open Go Go.RowKit Go.Proofs
set_option maxRecDepth 100000
set_option linter.unusedSimpArgs false
set_option linter.unusedVariables false
theorem refForm (g : GPart) (pt : Bool) : (((!((g.kind == 1) || !(g.text != [])) || !((g.kind == 5) || !(g.neg || decide (0 < g.ranges.length)))) || !((g.kind == 6) || !decide (0 < g.ways.length))) || ((((g.kind == 1) && (((g.text == []) || g.text.contains 0) || pt)) || ((g.kind == 5) && decide (g.ranges.length = 0))) || ((g.kind == 6) && decide (g.ways.length = 0)))) = (formBad g || (decide (g.kind = 1) && pt)) := by
  have d0 : ∀ n : Nat, decide (n = 0) = !decide (0 < n) := fun n => by
    cases n <;> simp
  rw [d0, d0]
  have e0 : (g.text == []) = !(g.text != []) := by simp [bne]
  rw [e0]
  generalize hT : (g.text != []) = T
  generalize hR : decide (0 < g.ranges.length) = Rr
  generalize hW : decide (0 < g.ways.length) = Ww
  generalize hC : g.text.contains 0 = C
  by_cases h1 : g.kind = 1
  · rw [formBad_1 h1, hT, hR, hW, hC, h1]
    cases T <;> cases Rr <;> cases Ww <;> cases C <;> cases g.neg <;> cases pt <;> rfl
  · by_cases h5 : g.kind = 5
    · rw [formBad_5 h5, hT, hW, d0, hR, h5]
      cases T <;> cases Rr <;> cases Ww <;> cases C <;> cases g.neg <;> cases pt <;> rfl
    · by_cases h6 : g.kind = 6
      · rw [formBad_6 h6, hT, hR, hW, h6]
        cases T <;> cases Rr <;> cases Ww <;> cases C <;> cases g.neg <;> cases pt <;> rfl
      · rw [formBad_0 h1 h5 h6, hT, hR, hW]
        have e1 : (g.kind == 1) = false := by simpa using h1
        have e5 : (g.kind == 5) = false := by simpa using h5
        have e6 : (g.kind == 6) = false := by simpa using h6
        rw [e1, e5, e6, decide_eq_false h1]
        cases T <;> cases Rr <;> cases Ww <;> cases C <;> cases g.neg <;> cases pt <;> rfl
theorem chk6_yes {g : GPart} {pt : Bool} {X : Int} (h : (formBad g || (decide (g.kind = 1) && pt)) = true) : (if formBad g then 6 else if g.kind = 1 ∧ pt = true then 6 else X) = 6 := by
  by_cases hf : formBad g = true
  · rw [if_pos hf]
  · rw [if_neg hf]
    have hf : formBad g = false := by simpa using hf
    rw [hf, Bool.false_or, Bool.and_eq_true, decide_eq_true_eq] at h
    rw [if_pos h]
theorem chk6_no {g : GPart} {pt : Bool} {X : Int} (h : (formBad g || (decide (g.kind = 1) && pt)) = false) : (if formBad g then 6 else if g.kind = 1 ∧ pt = true then 6 else X) = X := by
  rw [Bool.or_eq_false_iff] at h
  rw [if_neg (by rw [h.1]; decide), if_neg]
  rintro ⟨h1, h2⟩
  rw [h2, decide_eq_true h1] at h
  exact absurd h.2 (by decide)
theorem textAt_prev {l : List GPart} {i : Nat} (hi : i < l.length) : textAt l ((i : Int) - 1) = (decide ((i : Int) > 0) && ((l.getD (i - 1) dG).kind == 1)) := by
  cases i with
  | zero => rw [textAt_neg (by omega)]; rfl
  | succ k =>
    have hk : l[k]? = some l[k] := List.getElem?_eq_getElem (by omega)
    rw [show ((k + 1 : Nat) : Int) - 1 = (k : Int) by omega, textAt_nat hk, show k + 1 - 1 = k from rfl, List.getD_eq_getElem?_getD, hk]
    have e : decide (((k + 1 : Nat) : Int) > 0) = true := decide_eq_true (by omega)
    rw [e, Bool.true_and]
    rfl
theorem nm44 : (Tryd.f44.name == "runtime.NumGoroutine") = false := by kernel_rfl
theorem uses_fun (W0 : World) (g : GPart) (k : Int) (u : Bool) :
  PFun Tryd.prog W0 44 [.one (pint k), .one (pbool u), .one (.rop [pint g.kind, pstr g.text, pbool g.neg, .ro false 2 (rngPV g.ranges), .ro false 1 (encW g.ways)])] (.sv (.one (pbool ((g.kind == k) || !u)))) := by
 intro h
 refine pcalls3 (n := 14) Tryd.func44 rfl nm44 rfl fun hb => ?_
 refine pwp_then fun N1 hN1 => ?_
 refine pwp_reg fun R2 hR2 => ?_
 refine pops_mv (.inr rfl) rfl (by simp only [St.eval, constSlot] <;> rfl) ?_
 refine pops_done (hR2 _ ?_)
 clear hR2 R2
 try simp only [thenK]
 refine hN1 _ ?_
 clear hN1 N1
 refine pwp_then fun N3 hN3 => ?_
 refine pwp_reg fun R4 hR4 => ?_
 refine pops_to rfl fun M hM => ?_
 simp only [pop, St.eval, upd_at, Nat.reduceEqDiff, if_true, if_false, popFieldAddr, fieldOf, List.drop_zero, List.getElem?_toArray, List.getElem?_cons_zero, Tryd.underlying64, sz3]
 refine ⟨⟨_, rfl⟩, hM _ _ ?_⟩
 clear hM M
 refine pops_to rfl fun M hM => ?_
 simp only [pop, St.eval, upd_at, Nat.reduceEqDiff, if_true, if_false, popLoad, loadK, isAggD, Bool.false_eq_true, Tryd.underlying3, sz3, eq_self]
 refine hM _ _ ?_
 clear hM M
 refine pops_mv (.inl rfl) rfl (by simp only [St.eval, upd_at, Nat.reduceEqDiff, if_true, if_false] <;> rfl) ?_
 refine pops_to rfl fun M hM => ?_
 simp only [pop, St.eval, upd_at, Nat.reduceEqDiff, if_true, if_false, popBin, binK, intK, eq_self, true_and]
 refine hM _ _ ?_
 clear hM M
 refine pops_mv (.inl rfl) rfl (by simp only [St.eval, upd_at, Nat.reduceEqDiff, if_true, if_false] <;> rfl) ?_
 apply pops_or0 3 10 13 [11, 12] (by simp only [upd_at, Nat.reduceEqDiff, if_true, if_false] <;> rfl)
 ·skip
  intro g10_0 J5 hJ5
  simp only [List.take_succ_cons, List.take_zero]
  simp only [anyAt_cons, anyAt_nil] at hJ5
  refine pops_mvg (.inl rfl) rfl rfl (by simp only [upd_at, Nat.reduceEqDiff, if_true, if_false, g10_0]) (by simp only [St.eval, upd_at, Nat.reduceEqDiff, if_true, if_false, g10_0] <;> rfl) ?_
  refine pops_do rfl rfl (by simp only [upd_at, Nat.reduceEqDiff, if_true, if_false, g10_0]) fun M hM => ?_
  simp only [pop, St.eval, upd_at, Nat.reduceEqDiff, if_true, if_false, unK, g10_0]
  refine hM _ _ ?_
  clear hM M
  refine pops_to rfl fun M hM => ?_
  simp only [pop, St.eval, constSlot, upd_at, Nat.reduceEqDiff, if_true, if_false, true_implies, false_implies, Bool.false_eq_true, reduceCtorEq, true_and, g10_0]
  refine hM _ _ ?_
  clear hM M
  exact pops_done (hJ5 _ (wk_same (wk_any ((wk_any (Wk.refl _ _))))))
 ·skip
  intro g10_0 J5 hJ5
  simp only [List.take_succ_cons, List.take_zero]
  simp only [anyAt_cons, anyAt_nil] at hJ5
  refine pops_off (b := true) rfl rfl (by simp only [upd_at, Nat.reduceEqDiff, if_true, if_false, g10_0]) (by decide) ?_
  refine pops_off (b := true) rfl rfl (by simp only [upd_at, Nat.reduceEqDiff, if_true, if_false, g10_0]) (by decide) ?_
  refine pops_to rfl fun M hM => ?_
  simp only [pop, St.eval, constSlot, upd_at, Nat.reduceEqDiff, if_true, if_false, true_implies, false_implies, Bool.true_eq_false, reduceCtorEq, and_true, g10_0]
  refine hM _ _ ?_
  clear hM M
  exact pops_done (hJ5 _ (wk_same (wk_any ((wk_any (Wk.refl _ _))))))
 simp only [List.drop_succ_cons, List.drop_zero, anyAt_cons, anyAt_nil]
 refine pops_mv (.inr rfl) rfl (by simp only [St.eval, upd_at, Nat.reduceEqDiff, if_true, if_false] <;> rfl) ?_
 refine pops_done (hR4 _ ?_)
 clear hR4 R4
 try simp only [thenK]
 refine hN3 _ ?_
 clear hN3 N3
 refine pwp_ret ?_
 simp only [bodyK]
 refine ⟨_, rfl, endFun (Same.refl _) ?_⟩
 try simp only [upd_at, Nat.reduceEqDiff, if_true, if_false]
 all_goals
  rfl
theorem nm23 : (Tryd.f23.name == "runtime.NumGoroutine") = false := by kernel_rfl
set_option maxHeartbeats 8000000 in
theorem checkPartsR_fun1 (W0 : World) (l : List GPart) (hl : lW l ≤ 1048576) (ih : ∀ l' : List GPart, lW l' < lW l → lW l' ≤ 1048576 → PFun Tryd.prog W0 23 [.one (.ro false 5 (encL l'))] (.sv (.one (pint (chkL false l'))))) :
  PFun Tryd.prog W0 23 [.one (.ro false 5 (encL l))] (.sv (.one (pint (chkL false l)))) := by
 intro h
 have hln := lW_len l
 refine pcalls1 (n := 167) Tryd.func23 rfl nm23 rfl fun hb => ?_
 refine pwp_then fun N1 hN1 => ?_
 refine pwp_reg fun R2 hR2 => ?_
 refine pops_mv (.inr rfl) rfl (by simp only [St.eval, constSlot] <;> rfl) ?_
 refine pops_done (hR2 _ ?_)
 clear hR2 R2
 try simp only [thenK]
 refine hN1 _ ?_
 clear hN1 N1
 refine pwp_then fun N3 hN3 => ?_
 refine pwp_then fun N4 hN4 => ?_
 refine pwp_reg fun R5 hR5 => ?_
 refine pops_mv (.inl rfl) rfl (by simp only [St.eval, upd_at, Nat.reduceEqDiff, if_true, if_false] <;> rfl) ?_
 refine pops_to rfl fun M hM => ?_
 simp only [pop, St.eval, upd_at, Nat.reduceEqDiff, if_true, if_false, popCall, List.map_cons, List.map_nil, popBuiltin, popLen, lenOfSlot, Tryd.underlying22, eq_self, encL_len]
 refine hM _ _ ?_
 clear hM M
 refine pops_mv (.inl rfl) rfl (by simp only [St.eval, constSlot] <;> rfl) ?_
 refine pops_done (hR5 _ ?_)
 clear hR5 R5
 try simp only [thenK]
 refine hN4 _ ?_
 clear hN4 N4
 refine pwp_block ?_
 refine pwp_loop (fun k σ => ∃ (i : Nat), (k = l.length - i) ∧ (i ≤ l.length) ∧ (chkL (textAt l ((i : Int) - 1)) (l.drop i) = chkL false l) ∧ (Same h σ.hp) ∧ (σ.env 0 = .sv (.one (.ro false 5 (encL l)))) ∧ (σ.env 11 = .sv (.one (.ro false 5 (encL l)))) ∧ (σ.env 12 = .sv (.one (pint (l.length : Nat)))) ∧ (σ.env 13 = .sv (.one (pint (i : Nat))))) _ ⟨_, .refl _ _, 0, rfl, ?_⟩ ?_
 · exact ⟨Nat.zero_le _, by rw [textAt_neg (by omega)]; rfl, (Same.refl _), by simp only [upd_at, Nat.reduceEqDiff, if_true, if_false], by simp only [upd_at, Nat.reduceEqDiff, if_true, if_false], by first | rfl | (simp only [upd_at, Nat.reduceEqDiff, if_true, if_false]; rfl), by first | rfl | (simp only [upd_at, Nat.reduceEqDiff, if_true, if_false]; rfl)⟩
 ·rintro k ⟨e, hp0⟩ ⟨i, hk0, hx0_0, hx0_1, sl0, e0_0, e0_11, e0_12, e0_13⟩
  simp only at sl0 e0_0 e0_11 e0_12 e0_13
  refine pwp_then fun N6 hN6 => ?_
  refine pwp_reg fun R7 hR7 => ?_
  refine pops_to rfl fun M hM => ?_
  simp only [pop, St.eval, popBin, binK, intK, eq_self, true_and, e0_12, e0_13]
  refine hM _ _ ?_
  clear hM M
  refine pops_done (hR7 _ ?_)
  clear hR7 R7
  try simp only [thenK]
  refine hN6 _ ?_
  clear hN6 N6
  refine pwp_then fun N8 hN8 => ?_
  refine pwp_cond (by simp only [St.eval, upd_at, if_true] <;> rfl) (fun c14 => ?_) (fun c14 => ?_)
  ·skip
   have hi : i < l.length := by have := of_decide_eq_true c14; omega
   obtain ⟨g, hg⟩ : ∃ g, l[i]? = some g := ⟨_, List.getElem?_eq_getElem hi⟩
   have hget := encL_at hg
   rw [encG_eq] at hget
   have hgw := lW_at hg
   have hge := gW_eq g
   have hwl := wW_len g.ways
   have hrl := rng_len g.ranges
   have hst := chk_step hg
   rw [hx0_1] at hst
   have hrf := refForm g (textAt l ((i : Int) - 1))
   have htp := textAt_prev hi
   refine pwp_skip ?_
   try simp only [thenK]
   refine hN8 _ ?_
   clear hN8 N8
   refine pwp_then fun N9 hN9 => ?_
   refine pwp_block ?_
   refine pwp_then fun N10 hN10 => ?_
   refine pwp_reg fun R11 hR11 => ?_
   refine pops_mv (.inl rfl) rfl (by simp only [St.eval, upd_at, Nat.reduceEqDiff, if_false, e0_13] <;> rfl) ?_
   refine pops_to rfl fun M hM => ?_
   simp only [pop, St.eval, upd_at, Nat.reduceEqDiff, if_false, popIndexAddr, Tryd.underlying22, sz64, eq_self, true_and, e0_11, e0_13, hget, Int.toNat_natCast]
   refine ⟨Int.natCast_nonneg _, hM _ _ ?_⟩
   clear hM M
   refine pops_to rfl fun M hM => ?_
   simp only [pop, St.eval, upd_at, Nat.reduceEqDiff, if_true, if_false, List.length_cons, List.length_nil, Nat.zero_add, Nat.reduceAdd, Nat.reduceLeDiff, List.take_succ_cons, List.take_nil, popLoad, loadK, isAggD, Tryd.underlying64, sz64, eq_self, true_and]
   refine hM _ _ ?_
   clear hM M
   refine pops_valloc rfl ze64 (zs := [PV.val (.int .i64 0), PV.val (.string ⟨#[]⟩), PV.val (.bool false), PV.val (.slice none 0 0), PV.val (.slice none 0 0)]) (by kernel_rfl) (by exact Nat.succ_pos _) (fun id12 hid12 => ?_)
   refine pops_mv (.inr rfl) rfl (by simp only [St.eval, upd_at, Nat.reduceEqDiff, if_true, if_false] <;> rfl) ?_
   refine pops_vstore (zs := [PV.val (.int .i64 0), PV.val (.string ⟨#[]⟩), PV.val (.bool false), PV.val (.slice none 0 0), PV.val (.slice none 0 0)]) (hpOk.same hb sl0) hid12 (by simp only [upd_at, Nat.reduceEqDiff, if_true, if_false]) (by simp only [St.eval, slotCells, upd_at, Nat.reduceEqDiff, if_true, if_false] <;> rfl) (by rfl) (by rw [sz64]; rfl) (fun hv13 sv13 => ?_)
   replace sv13 := Same.trans sl0 sv13
   refine pops_done (hR11 _ ?_)
   clear hR11 R11
   try simp only [thenK]
   refine hN10 _ ?_
   clear hN10 N10
   refine pwp_then fun N14 hN14 => ?_
   refine pwp_then fun N15 hN15 => ?_
   refine pwp_reg fun R16 hR16 => ?_
   refine pops_to rfl fun M hM => ?_
   simp only [pop, St.eval, upd_at, Nat.reduceEqDiff, if_true, if_false, popFieldAddr, fieldOf, List.drop_zero, List.getElem?_toArray, List.getElem?_cons_zero, Tryd.underlying64, sz3]
   refine ⟨⟨_, rfl⟩, hM _ _ ?_⟩
   clear hM M
   refine pops_to rfl fun M hM => ?_
   simp only [pop, St.eval, upd_at, Nat.reduceEqDiff, if_true, if_false, popLoad, loadK, isAggD, Bool.false_eq_true, Tryd.underlying3, sz3, eq_self]
   refine hM _ _ ?_
   clear hM M
   refine pops_to rfl fun M hM => ?_
   simp only [pop, St.eval, constSlot, upd_at, Nat.reduceEqDiff, if_true, if_false, popBin, binK, intK, eq_self, true_and]
   refine hM _ _ ?_
   clear hM M
   refine pops_mv (.inl rfl) rfl (by simp only [St.eval, upd_at, Nat.reduceEqDiff, if_true, if_false] <;> rfl) ?_
   apply pops_or0 4 21 25 [22, 23, 24] (by simp only [upd_at, Nat.reduceEqDiff, if_true, if_false] <;> rfl)
   ·skip
    intro g21_0 J17 hJ17
    simp only [List.take_succ_cons, List.take_zero]
    simp only [anyAt_cons, anyAt_nil] at hJ17
    refine pops_do rfl rfl (by simp only [upd_at, Nat.reduceEqDiff, if_true, if_false, g21_0]) fun M hM => ?_
    simp only [pop, St.eval, upd_at, Nat.reduceEqDiff, if_true, if_false, popFieldAddr, fieldOf, List.drop_zero, List.getElem?_toArray, List.getElem?_cons_zero, Tryd.underlying64, sz3, g21_0]
    refine ⟨⟨_, rfl⟩, hM _ _ ?_⟩
    clear hM M
    refine pops_do rfl rfl (by simp only [upd_at, Nat.reduceEqDiff, if_true, if_false, g21_0]) fun M hM => ?_
    simp only [pop, St.eval, upd_at, Nat.reduceEqDiff, if_true, if_false, popLoad, loadK, isAggD, Bool.false_eq_true, Tryd.underlying3, sz3, eq_self, g21_0]
    refine hM _ _ ?_
    clear hM M
    refine pops_do rfl rfl (by simp only [upd_at, Nat.reduceEqDiff, if_true, if_false, g21_0]) fun M hM => ?_
    simp only [pop, St.eval, constSlot, upd_at, Nat.reduceEqDiff, if_true, if_false, popBin, binK, intK, eq_self, true_and, g21_0]
    refine hM _ _ ?_
    clear hM M
    refine pops_to rfl fun M hM => ?_
    simp only [pop, St.eval, constSlot, upd_at, Nat.reduceEqDiff, if_true, if_false, true_implies, false_implies, Bool.false_eq_true, true_and, g21_0]
    refine hM _ _ ?_
    clear hM M
    exact pops_done (hJ17 _ (wk_same (wk_any ((wk_any ((wk_any (Wk.refl _ _))))))))
   ·skip
    intro g21_0 J17 hJ17
    simp only [List.take_succ_cons, List.take_zero]
    simp only [anyAt_cons, anyAt_nil] at hJ17
    refine pops_off (b := true) rfl rfl (by simp only [upd_at, Nat.reduceEqDiff, if_true, if_false, g21_0]) (by decide) ?_
    refine pops_off (b := true) rfl rfl (by simp only [upd_at, Nat.reduceEqDiff, if_true, if_false, g21_0]) (by decide) ?_
    refine pops_off (b := true) rfl rfl (by simp only [upd_at, Nat.reduceEqDiff, if_true, if_false, g21_0]) (by decide) ?_
    refine pops_to rfl fun M hM => ?_
    simp only [pop, St.eval, constSlot, upd_at, Nat.reduceEqDiff, if_true, if_false, true_implies, false_implies, Bool.true_eq_false, and_true, g21_0]
    refine hM _ _ ?_
    clear hM M
    exact pops_done (hJ17 _ (wk_same (wk_any ((wk_any ((wk_any (Wk.refl _ _))))))))
   simp only [List.drop_succ_cons, List.drop_zero, anyAt_cons, anyAt_nil]
   refine pops_done (hR16 _ ?_)
   clear hR16 R16
   try simp only [thenK]
   refine hN15 _ ?_
   clear hN15 N15
   refine pwp_cond (by simp only [St.eval, upd_at, Nat.reduceEqDiff, if_true, if_false] <;> rfl) (fun c25 => ?_) (fun c25 => ?_)
   ·skip
    have hk : g.kind < 1 ∨ 6 < g.kind := by simp only [Bool.or_eq_true, decide_eq_true_eq] at c25; omega
    rw [if_pos hk] at hst
    refine pwp_then fun N18 hN18 => ?_
    refine pwp_reg fun R19 hR19 => ?_
    refine pops_mv (.inr rfl) rfl (by simp only [St.eval, constSlot] <;> rfl) ?_
    refine pops_done (hR19 _ ?_)
    clear hR19 R19
    try simp only [thenK]
    refine hN18 _ ?_
    clear hN18 N18
    refine pwp_ret ?_
    simp only [thenK, blockK, bodyK]
    clear hN14 N14 hN9 N9 hN3 N3
    refine ⟨_, rfl, endFun sv13 ?_⟩
    try simp only [upd_at, Nat.reduceEqDiff, if_true, if_false]
    all_goals
     rw [hst]
   ·skip
    have hk : ¬ (g.kind < 1 ∨ 6 < g.kind) := by simp only [Bool.or_eq_false_iff, decide_eq_false_iff_not] at c25; omega
    rw [if_neg hk] at hst
    refine pwp_skip ?_
    try simp only [thenK]
    refine hN14 _ ?_
    clear hN14 N14
    refine pwp_then fun N20 hN20 => ?_
    refine pwp_reg fun R21 hR21 => ?_
    refine pops_to rfl fun M hM => ?_
    simp only [pop, St.eval, constSlot, upd_at, Nat.reduceEqDiff, if_true, if_false, onesOf, List.mapM_cons, List.mapM_nil, Option.bind_eq_bind, Option.bind_some, Option.pure_def, eq_self, true_and]
    refine hM _ _ ?_
    clear hM M
    refine pops_mv (.inr rfl) rfl (by simp only [St.eval, upd_at, Nat.reduceEqDiff, if_true, if_false] <;> rfl) ?_
    refine pops_done (hR21 _ ?_)
    clear hR21 R21
    try simp only [thenK]
    refine hN20 _ ?_
    clear hN20 N20
    refine pwp_then fun N22 hN22 => ?_
    refine pwp_then fun N23 hN23 => ?_
    refine pwp_reg fun R24 hR24 => ?_
    refine pops_mv (.inl rfl) rfl (by simp only [St.eval, upd_at, Nat.reduceEqDiff, if_true, if_false] <;> rfl) ?_
    refine pops_to rfl fun M hM => ?_
    simp only [pop, St.eval, upd_at, Nat.reduceEqDiff, if_true, if_false, popFieldAddr, fieldOf, List.drop_succ_cons, List.drop_zero, List.getElem?_toArray, List.getElem?_cons_zero, List.getElem?_cons_succ, Tryd.underlying64, sz9]
    refine ⟨⟨_, rfl⟩, hM _ _ ?_⟩
    clear hM M
    refine pops_to rfl fun M hM => ?_
    simp only [pop, St.eval, upd_at, Nat.reduceEqDiff, if_true, if_false, popLoad, loadK, isAggD, Bool.false_eq_true, Tryd.underlying9, sz9, eq_self]
    refine hM _ _ ?_
    clear hM M
    refine pops_to rfl fun M hM => ?_
    simp only [pop, St.eval, constSlot, upd_at, Nat.reduceEqDiff, if_true, if_false, popBin, binK, strK, eq_self, str_list]
    refine hM _ _ ?_
    clear hM M
    refine pops_to rfl fun M hM => ?_
    simp only [pop, St.eval, constSlot, upd_at, Nat.reduceEqDiff, if_true, if_false, popCall, List.map_cons, List.map_nil, svs, List.mapM_cons, List.mapM_nil, Option.bind_eq_bind, Option.bind_some, Option.pure_def, List.cons_append, List.nil_append]
    refine PFun.use (uses_fun W0 g 1 (g.text != [])) fun h1 s1 => hM _ _ ?_
    replace s1 := Same.trans sv13 s1
    clear hM M
    refine pops_to rfl fun M hM => ?_
    simp only [pop, St.eval, upd_at, Nat.reduceEqDiff, if_true, if_false, unK]
    refine hM _ _ ?_
    clear hM M
    refine pops_mv (.inl rfl) rfl (by simp only [St.eval, upd_at, Nat.reduceEqDiff, if_true, if_false] <;> rfl) ?_
    apply pops_or 12 33 45 [34, 35, 36, 37, 38, 39, 40, 41, 42, 43, 44] (by simp only [upd_at, Nat.reduceEqDiff, if_true, if_false] <;> rfl)
    ·skip
     intro g33_0 J25 hJ25
     simp only [List.take_succ_cons, List.take_zero]
     simp only [anyAt_cons, anyAt_nil] at hJ25
     refine pops_mvg (.inl rfl) rfl rfl (by simp only [upd_at, Nat.reduceEqDiff, if_true, if_false, g33_0]) (by simp only [St.eval, upd_at, Nat.reduceEqDiff, if_true, if_false, g33_0] <;> rfl) ?_
     refine pops_do rfl rfl (by simp only [upd_at, Nat.reduceEqDiff, if_true, if_false, g33_0]) fun M hM => ?_
     simp only [pop, St.eval, upd_at, Nat.reduceEqDiff, if_true, if_false, popFieldAddr, fieldOf, List.drop_succ_cons, List.drop_zero, List.getElem?_toArray, List.getElem?_cons_zero, List.getElem?_cons_succ, Tryd.underlying64, sz4, g33_0]
     refine ⟨⟨_, rfl⟩, hM _ _ ?_⟩
     clear hM M
     refine pops_do rfl rfl (by simp only [upd_at, Nat.reduceEqDiff, if_true, if_false, g33_0]) fun M hM => ?_
     simp only [pop, St.eval, upd_at, Nat.reduceEqDiff, if_true, if_false, popLoad, loadK, isAggD, Bool.false_eq_true, Tryd.underlying4, sz4, eq_self, g33_0]
     refine hM _ _ ?_
     clear hM M
     refine pops_mvg (.inl rfl) rfl rfl (by simp only [upd_at, Nat.reduceEqDiff, if_true, if_false, g33_0]) (by simp only [St.eval, upd_at, Nat.reduceEqDiff, if_true, if_false, g33_0] <;> rfl) ?_
     apply pops_or0 5 37 42 [38, 39, 40, 41] (by simp only [upd_at, Nat.reduceEqDiff, if_true, if_false, g33_0] <;> rfl)
     ·skip
      intro g37_1 J26 hJ26
      simp only [List.take_succ_cons, List.take_zero]
      simp only [anyAt_cons, anyAt_nil] at hJ26
      refine pops_do rfl rfl (by simp only [upd_at, Nat.reduceEqDiff, if_true, if_false, g33_0, g37_1]) fun M hM => ?_
      simp only [pop, St.eval, upd_at, Nat.reduceEqDiff, if_true, if_false, popFieldAddr, fieldOf, List.drop_succ_cons, List.drop_zero, List.getElem?_toArray, List.getElem?_cons_zero, List.getElem?_cons_succ, Tryd.underlying64, sz61, g33_0, g37_1]
      refine ⟨⟨_, rfl⟩, hM _ _ ?_⟩
      clear hM M
      refine pops_do rfl rfl (by simp only [upd_at, Nat.reduceEqDiff, if_true, if_false, g33_0, g37_1]) fun M hM => ?_
      simp only [pop, St.eval, upd_at, Nat.reduceEqDiff, if_true, if_false, popLoad, loadK, isAggD, Bool.false_eq_true, Tryd.underlying61, sz61, eq_self, g33_0, g37_1]
      refine hM _ _ ?_
      clear hM M
      refine pops_do rfl rfl (by simp only [upd_at, Nat.reduceEqDiff, if_true, if_false, g33_0, g37_1]) fun M hM => ?_
      simp only [pop, St.eval, upd_at, Nat.reduceEqDiff, if_true, if_false, popCall, List.map_cons, List.map_nil, popBuiltin, popLen, lenOfSlot, List.length_map, Tryd.underlying61, eq_self, g33_0, g37_1, List.length_map]
      refine hM _ _ ?_
      clear hM M
      refine pops_do rfl rfl (by simp only [upd_at, Nat.reduceEqDiff, if_true, if_false, g33_0, g37_1]) fun M hM => ?_
      simp only [pop, St.eval, constSlot, upd_at, Nat.reduceEqDiff, if_true, if_false, popBin, binK, intK, eq_self, true_and, g33_0, g37_1]
      refine hM _ _ ?_
      clear hM M
      refine pops_do rfl rfl (by simp only [upd_at, Nat.reduceEqDiff, if_true, if_false, g33_0, g37_1]) fun M hM => ?_
      simp only [pop, St.eval, constSlot, upd_at, Nat.reduceEqDiff, if_true, if_false, true_implies, false_implies, Bool.false_eq_true, true_and, g33_0, g37_1]
      refine hM _ _ ?_
      clear hM M
      exact pops_done (hJ26 _ (wk_same (wk_any ((wk_any ((wk_any ((wk_any (Wk.refl _ _))))))))))
     ·skip
      intro g37_1 J26 hJ26
      simp only [List.take_succ_cons, List.take_zero]
      simp only [anyAt_cons, anyAt_nil] at hJ26
      refine pops_off (b := true) rfl rfl (by simp only [upd_at, Nat.reduceEqDiff, if_true, if_false, g33_0, g37_1]) (by decide) ?_
      refine pops_off (b := true) rfl rfl (by simp only [upd_at, Nat.reduceEqDiff, if_true, if_false, g33_0, g37_1]) (by decide) ?_
      refine pops_off (b := true) rfl rfl (by simp only [upd_at, Nat.reduceEqDiff, if_true, if_false, g33_0, g37_1]) (by decide) ?_
      refine pops_off (b := true) rfl rfl (by simp only [upd_at, Nat.reduceEqDiff, if_true, if_false, g33_0, g37_1]) (by decide) ?_
      refine pops_do rfl rfl (by simp only [upd_at, Nat.reduceEqDiff, if_true, if_false, g33_0, g37_1]) fun M hM => ?_
      simp only [pop, St.eval, constSlot, upd_at, Nat.reduceEqDiff, if_true, if_false, true_implies, false_implies, Bool.true_eq_false, and_true, g33_0, g37_1]
      refine hM _ _ ?_
      clear hM M
      exact pops_done (hJ26 _ (wk_same (wk_any ((wk_any ((wk_any ((wk_any (Wk.refl _ _))))))))))
     simp only [List.drop_succ_cons, List.drop_zero, anyAt_cons, anyAt_nil]
     refine pops_do rfl rfl (by simp only [upd_at, Nat.reduceEqDiff, if_true, if_false, g33_0]) fun M hM => ?_
     simp only [pop, St.eval, constSlot, upd_at, Nat.reduceEqDiff, if_true, if_false, popCall, List.map_cons, List.map_nil, svs, List.mapM_cons, List.mapM_nil, Option.bind_eq_bind, Option.bind_some, Option.pure_def, List.cons_append, List.nil_append, g33_0]
     refine PFun.use (uses_fun W0 g 5 (g.neg || decide (((g.ranges.length : Nat) : Int) > 0))) fun h2 s2 => hM _ _ ?_
     replace s2 := Same.trans (Same.refl _) s2
     clear hM M
     refine pops_do rfl rfl (by simp only [upd_at, Nat.reduceEqDiff, if_true, if_false, g33_0]) fun M hM => ?_
     simp only [pop, St.eval, upd_at, Nat.reduceEqDiff, if_true, if_false, unK, g33_0]
     refine hM _ _ ?_
     clear hM M
     refine pops_to rfl fun M hM => ?_
     simp only [pop, St.eval, constSlot, upd_at, Nat.reduceEqDiff, if_true, if_false, true_implies, false_implies, Bool.false_eq_true, true_and, g33_0]
     refine hM _ _ ?_
     clear hM M
     exact pops_done (hJ25 _ _ s2 (wk_same (wk_any ((wk_any ((wk_any ((wk_any ((wk_any ((wk_any ((wk_any ((wk_any ((wk_any ((wk_any ((wk_any (Wk.refl _ _))))))))))))))))))))))))
    ·skip
     intro g33_0 J25 hJ25
     simp only [List.take_succ_cons, List.take_zero]
     simp only [anyAt_cons, anyAt_nil] at hJ25
     refine pops_off (b := true) rfl rfl (by simp only [upd_at, Nat.reduceEqDiff, if_true, if_false, g33_0]) (by decide) ?_
     refine pops_off (b := true) rfl rfl (by simp only [upd_at, Nat.reduceEqDiff, if_true, if_false, g33_0]) (by decide) ?_
     refine pops_off (b := true) rfl rfl (by simp only [upd_at, Nat.reduceEqDiff, if_true, if_false, g33_0]) (by decide) ?_
     refine pops_off (b := true) rfl rfl (by simp only [upd_at, Nat.reduceEqDiff, if_true, if_false, g33_0]) (by decide) ?_
     refine pops_off0 rfl rfl (by simp only [upd_at, Nat.reduceEqDiff, if_true, if_false, g33_0]) ?_
     refine pops_off0 rfl rfl (by simp only [upd_at, Nat.reduceEqDiff, if_true, if_false, g33_0]) ?_
     refine pops_off0 rfl rfl (by simp only [upd_at, Nat.reduceEqDiff, if_true, if_false, g33_0]) ?_
     refine pops_off0 rfl rfl (by simp only [upd_at, Nat.reduceEqDiff, if_true, if_false, g33_0]) ?_
     refine pops_off (b := true) rfl rfl (by simp only [upd_at, Nat.reduceEqDiff, if_true, if_false, g33_0]) (by decide) ?_
     refine pops_off (b := true) rfl rfl (by simp only [upd_at, Nat.reduceEqDiff, if_true, if_false, g33_0]) (by decide) ?_
     refine pops_off (b := true) rfl rfl (by simp only [upd_at, Nat.reduceEqDiff, if_true, if_false, g33_0]) (by decide) ?_
     refine pops_to rfl fun M hM => ?_
     simp only [pop, St.eval, constSlot, upd_at, Nat.reduceEqDiff, if_true, if_false, true_implies, false_implies, Bool.true_eq_false, and_true, g33_0]
     refine hM _ _ ?_
     clear hM M
     exact pops_done (hJ25 _ _ (Same.refl _) (wk_same (wk_any ((wk_any ((wk_any ((wk_any ((wk_any ((wk_any ((wk_any ((wk_any ((wk_any ((wk_any ((wk_any (Wk.refl _ _))))))))))))))))))))))))
    simp only [List.drop_succ_cons, List.drop_zero, anyAt_cons, anyAt_nil]
    intro hj25 sj25
    replace sj25 := Same.trans s1 sj25
    refine pops_mv (.inl rfl) rfl (by simp only [St.eval, upd_at, Nat.reduceEqDiff, if_true, if_false] <;> rfl) ?_
    apply pops_or 8 46 54 [47, 48, 49, 50, 51, 52, 53] (by simp only [upd_at, Nat.reduceEqDiff, if_true, if_false] <;> rfl)
    ·skip
     intro g46_0 J27 hJ27
     simp only [List.take_succ_cons, List.take_zero]
     simp only [anyAt_cons, anyAt_nil] at hJ27
     refine pops_mvg (.inl rfl) rfl rfl (by simp only [upd_at, Nat.reduceEqDiff, if_true, if_false, g46_0]) (by simp only [St.eval, upd_at, Nat.reduceEqDiff, if_true, if_false, g46_0] <;> rfl) ?_
     refine pops_do rfl rfl (by simp only [upd_at, Nat.reduceEqDiff, if_true, if_false, g46_0]) fun M hM => ?_
     simp only [pop, St.eval, upd_at, Nat.reduceEqDiff, if_true, if_false, popFieldAddr, fieldOf, List.drop_succ_cons, List.drop_zero, List.getElem?_toArray, List.getElem?_cons_zero, List.getElem?_cons_succ, Tryd.underlying64, sz62, g46_0]
     refine ⟨⟨_, rfl⟩, hM _ _ ?_⟩
     clear hM M
     refine pops_do rfl rfl (by simp only [upd_at, Nat.reduceEqDiff, if_true, if_false, g46_0]) fun M hM => ?_
     simp only [pop, St.eval, upd_at, Nat.reduceEqDiff, if_true, if_false, popLoad, loadK, isAggD, Bool.false_eq_true, Tryd.underlying62, sz62, eq_self, g46_0]
     refine hM _ _ ?_
     clear hM M
     refine pops_do rfl rfl (by simp only [upd_at, Nat.reduceEqDiff, if_true, if_false, g46_0]) fun M hM => ?_
     simp only [pop, St.eval, upd_at, Nat.reduceEqDiff, if_true, if_false, popCall, List.map_cons, List.map_nil, popBuiltin, popLen, lenOfSlot, Tryd.underlying62, eq_self, g46_0, encW_len]
     refine hM _ _ ?_
     clear hM M
     refine pops_do rfl rfl (by simp only [upd_at, Nat.reduceEqDiff, if_true, if_false, g46_0]) fun M hM => ?_
     simp only [pop, St.eval, constSlot, upd_at, Nat.reduceEqDiff, if_true, if_false, popBin, binK, intK, eq_self, true_and, g46_0]
     refine hM _ _ ?_
     clear hM M
     refine pops_do rfl rfl (by simp only [upd_at, Nat.reduceEqDiff, if_true, if_false, g46_0]) fun M hM => ?_
     simp only [pop, St.eval, constSlot, upd_at, Nat.reduceEqDiff, if_true, if_false, popCall, List.map_cons, List.map_nil, svs, List.mapM_cons, List.mapM_nil, Option.bind_eq_bind, Option.bind_some, Option.pure_def, List.cons_append, List.nil_append, g46_0]
     refine PFun.use (uses_fun W0 g 6 (decide (((g.ways.length : Nat) : Int) > 0))) fun h3 s3 => hM _ _ ?_
     replace s3 := Same.trans (Same.refl _) s3
     clear hM M
     refine pops_do rfl rfl (by simp only [upd_at, Nat.reduceEqDiff, if_true, if_false, g46_0]) fun M hM => ?_
     simp only [pop, St.eval, upd_at, Nat.reduceEqDiff, if_true, if_false, unK, g46_0]
     refine hM _ _ ?_
     clear hM M
     refine pops_to rfl fun M hM => ?_
     simp only [pop, St.eval, constSlot, upd_at, Nat.reduceEqDiff, if_true, if_false, true_implies, false_implies, Bool.false_eq_true, true_and, g46_0]
     refine hM _ _ ?_
     clear hM M
     exact pops_done (hJ27 _ _ s3 (wk_same (wk_any ((wk_any ((wk_any ((wk_any ((wk_any ((wk_any ((wk_any (Wk.refl _ _))))))))))))))))
    ·skip
     intro g46_0 J27 hJ27
     simp only [List.take_succ_cons, List.take_zero]
     simp only [anyAt_cons, anyAt_nil] at hJ27
     refine pops_off (b := true) rfl rfl (by simp only [upd_at, Nat.reduceEqDiff, if_true, if_false, g46_0]) (by decide) ?_
     refine pops_off (b := true) rfl rfl (by simp only [upd_at, Nat.reduceEqDiff, if_true, if_false, g46_0]) (by decide) ?_
     refine pops_off (b := true) rfl rfl (by simp only [upd_at, Nat.reduceEqDiff, if_true, if_false, g46_0]) (by decide) ?_
     refine pops_off (b := true) rfl rfl (by simp only [upd_at, Nat.reduceEqDiff, if_true, if_false, g46_0]) (by decide) ?_
     refine pops_off (b := true) rfl rfl (by simp only [upd_at, Nat.reduceEqDiff, if_true, if_false, g46_0]) (by decide) ?_
     refine pops_off (b := true) rfl rfl (by simp only [upd_at, Nat.reduceEqDiff, if_true, if_false, g46_0]) (by decide) ?_
     refine pops_off (b := true) rfl rfl (by simp only [upd_at, Nat.reduceEqDiff, if_true, if_false, g46_0]) (by decide) ?_
     refine pops_to rfl fun M hM => ?_
     simp only [pop, St.eval, constSlot, upd_at, Nat.reduceEqDiff, if_true, if_false, true_implies, false_implies, Bool.true_eq_false, and_true, g46_0]
     refine hM _ _ ?_
     clear hM M
     exact pops_done (hJ27 _ _ (Same.refl _) (wk_same (wk_any ((wk_any ((wk_any ((wk_any ((wk_any ((wk_any ((wk_any (Wk.refl _ _))))))))))))))))
    simp only [List.drop_succ_cons, List.drop_zero, anyAt_cons, anyAt_nil]
    intro hj27 sj27
    replace sj27 := Same.trans sj25 sj27
    refine pops_done (hR24 _ ?_)
    clear hR24 R24
    try simp only [thenK]
    refine hN23 _ ?_
    clear hN23 N23
    refine pwp_cond (by simp only [St.eval, upd_at, Nat.reduceEqDiff, if_true, if_false] <;> rfl) (fun c54 => ?_) (fun c54 => ?_)
    ·skip
     rw [lenZ, lenZ] at c54
     rw [c54, Bool.true_or] at hrf
     rw [chk6_yes hrf.symm] at hst
     refine pwp_then fun N28 hN28 => ?_
     refine pwp_reg fun R29 hR29 => ?_
     refine pops_mv (.inr rfl) rfl (by simp only [St.eval, constSlot] <;> rfl) ?_
     refine pops_done (hR29 _ ?_)
     clear hR29 R29
     try simp only [thenK]
     refine hN28 _ ?_
     clear hN28 N28
     refine pwp_ret ?_
     simp only [thenK, blockK, bodyK]
     clear hN22 N22 hN9 N9 hN3 N3
     refine ⟨_, rfl, endFun sj27 ?_⟩
     try simp only [upd_at, Nat.reduceEqDiff, if_true, if_false]
     all_goals
      rw [hst]
    ·skip
     rw [lenZ, lenZ] at c54
     rw [c54, Bool.false_or] at hrf
     refine pwp_skip ?_
     try simp only [thenK]
     refine hN22 _ ?_
     clear hN22 N22
     refine pwp_then fun N30 hN30 => ?_
     refine pwp_then fun N31 hN31 => ?_
     refine pwp_reg fun R32 hR32 => ?_
     refine pops_to rfl fun M hM => ?_
     simp only [pop, St.eval, upd_at, Nat.reduceEqDiff, if_true, if_false, popFieldAddr, fieldOf, List.drop_zero, List.getElem?_toArray, List.getElem?_cons_zero, Tryd.underlying64, sz3]
     refine ⟨⟨_, rfl⟩, hM _ _ ?_⟩
     clear hM M
     refine pops_to rfl fun M hM => ?_
     simp only [pop, St.eval, upd_at, Nat.reduceEqDiff, if_true, if_false, popLoad, loadK, isAggD, Bool.false_eq_true, Tryd.underlying3, sz3, eq_self]
     refine hM _ _ ?_
     clear hM M
     refine pops_to rfl fun M hM => ?_
     simp only [pop, St.eval, constSlot, upd_at, Nat.reduceEqDiff, if_true, if_false, popBin, binK, intK, eq_self, true_and]
     refine hM _ _ ?_
     clear hM M
     refine pops_mv (.inl rfl) rfl (by simp only [St.eval, upd_at, Nat.reduceEqDiff, if_true, if_false] <;> rfl) ?_
     apply pops_and 23 58 81 [59, 60, 61, 62, 63, 64, 65, 66, 67, 68, 69, 70, 71, 72, 73, 74, 75, 76, 77, 78, 79, 80] (by simp only [upd_at, Nat.reduceEqDiff, if_true, if_false] <;> rfl)
     ·skip
      intro g58_0 J33 hJ33
      simp only [List.take_succ_cons, List.take_zero]
      simp only [anyAt_cons, anyAt_nil] at hJ33
      refine pops_do rfl rfl (by simp only [upd_at, Nat.reduceEqDiff, if_true, if_false, g58_0]) fun M hM => ?_
      simp only [pop, St.eval, upd_at, Nat.reduceEqDiff, if_true, if_false, popFieldAddr, fieldOf, List.drop_succ_cons, List.drop_zero, List.getElem?_toArray, List.getElem?_cons_zero, List.getElem?_cons_succ, Tryd.underlying64, sz9, g58_0]
      refine ⟨⟨_, rfl⟩, hM _ _ ?_⟩
      clear hM M
      refine pops_do rfl rfl (by simp only [upd_at, Nat.reduceEqDiff, if_true, if_false, g58_0]) fun M hM => ?_
      simp only [pop, St.eval, upd_at, Nat.reduceEqDiff, if_true, if_false, popLoad, loadK, isAggD, Bool.false_eq_true, Tryd.underlying9, sz9, eq_self, g58_0]
      refine hM _ _ ?_
      clear hM M
      refine pops_do rfl rfl (by simp only [upd_at, Nat.reduceEqDiff, if_true, if_false, g58_0]) fun M hM => ?_
      simp only [pop, St.eval, constSlot, upd_at, Nat.reduceEqDiff, if_true, if_false, popBin, binK, strK, eq_self, str_list, g58_0]
      refine hM _ _ ?_
      clear hM M
      refine pops_mvg (.inl rfl) rfl rfl (by simp only [upd_at, Nat.reduceEqDiff, if_true, if_false, g58_0]) (by simp only [St.eval, upd_at, Nat.reduceEqDiff, if_true, if_false, g58_0] <;> rfl) ?_
      apply pops_or 5 62 67 [63, 64, 65, 66] (by simp only [upd_at, Nat.reduceEqDiff, if_true, if_false, g58_0] <;> rfl)
      ·skip
       intro g62_1 J34 hJ34
       simp only [List.take_succ_cons, List.take_zero]
       simp only [anyAt_cons, anyAt_nil] at hJ34
       refine pops_do rfl rfl (by simp only [upd_at, Nat.reduceEqDiff, if_true, if_false, g58_0, g62_1]) fun M hM => ?_
       simp only [pop, St.eval, upd_at, Nat.reduceEqDiff, if_true, if_false, popFieldAddr, fieldOf, List.drop_succ_cons, List.drop_zero, List.getElem?_toArray, List.getElem?_cons_zero, List.getElem?_cons_succ, Tryd.underlying64, sz9, g58_0, g62_1]
       refine ⟨⟨_, rfl⟩, hM _ _ ?_⟩
       clear hM M
       refine pops_do rfl rfl (by simp only [upd_at, Nat.reduceEqDiff, if_true, if_false, g58_0, g62_1]) fun M hM => ?_
       simp only [pop, St.eval, upd_at, Nat.reduceEqDiff, if_true, if_false, popLoad, loadK, isAggD, Bool.false_eq_true, Tryd.underlying9, sz9, eq_self, g58_0, g62_1]
       refine hM _ _ ?_
       clear hM M
       refine pops_do rfl rfl (by simp only [upd_at, Nat.reduceEqDiff, if_true, if_false, g58_0, g62_1]) fun M hM => ?_
       simp only [pop, St.eval, constSlot, upd_at, Nat.reduceEqDiff, if_true, if_false, popCall, List.map_nil, svs, List.mapM_cons, List.mapM_nil, Option.bind_eq_bind, Option.bind_some, Option.pure_def, List.append_nil, g58_0, g62_1]
       refine PFun.use (indexByte_fun W0 g.text 0) fun h4 s4 => hM _ _ ?_
       replace s4 := Same.trans (Same.refl _) s4
       clear hM M
       refine pops_do rfl rfl (by simp only [upd_at, Nat.reduceEqDiff, if_true, if_false, g58_0, g62_1]) fun M hM => ?_
       simp only [pop, St.eval, constSlot, upd_at, Nat.reduceEqDiff, if_true, if_false, popBin, binK, intK, eq_self, true_and, g58_0, g62_1]
       refine hM _ _ ?_
       clear hM M
       refine pops_do rfl rfl (by simp only [upd_at, Nat.reduceEqDiff, if_true, if_false, g58_0, g62_1]) fun M hM => ?_
       simp only [pop, St.eval, constSlot, upd_at, Nat.reduceEqDiff, if_true, if_false, true_implies, false_implies, Bool.false_eq_true, true_and, g58_0, g62_1]
       refine hM _ _ ?_
       clear hM M
       exact pops_done (hJ34 _ _ s4 (wk_same (wk_any ((wk_any ((wk_any ((wk_any (Wk.refl _ _))))))))))
      ·skip
       intro g62_1 J34 hJ34
       simp only [List.take_succ_cons, List.take_zero]
       simp only [anyAt_cons, anyAt_nil] at hJ34
       refine pops_off (b := true) rfl rfl (by simp only [upd_at, Nat.reduceEqDiff, if_true, if_false, g58_0, g62_1]) (by decide) ?_
       refine pops_off (b := true) rfl rfl (by simp only [upd_at, Nat.reduceEqDiff, if_true, if_false, g58_0, g62_1]) (by decide) ?_
       refine pops_off (b := true) rfl rfl (by simp only [upd_at, Nat.reduceEqDiff, if_true, if_false, g58_0, g62_1]) (by decide) ?_
       refine pops_off (b := true) rfl rfl (by simp only [upd_at, Nat.reduceEqDiff, if_true, if_false, g58_0, g62_1]) (by decide) ?_
       refine pops_do rfl rfl (by simp only [upd_at, Nat.reduceEqDiff, if_true, if_false, g58_0, g62_1]) fun M hM => ?_
       simp only [pop, St.eval, constSlot, upd_at, Nat.reduceEqDiff, if_true, if_false, true_implies, false_implies, Bool.true_eq_false, and_true, g58_0, g62_1]
       refine hM _ _ ?_
       clear hM M
       exact pops_done (hJ34 _ _ (Same.refl _) (wk_same (wk_any ((wk_any ((wk_any ((wk_any (Wk.refl _ _))))))))))
      simp only [List.drop_succ_cons, List.drop_zero, anyAt_cons, anyAt_nil]
      intro hj34 sj34
      refine pops_mvg (.inl rfl) rfl rfl (by simp only [upd_at, Nat.reduceEqDiff, if_true, if_false, g58_0]) (by simp only [St.eval, upd_at, Nat.reduceEqDiff, if_true, if_false, g58_0] <;> rfl) ?_
      apply pops_or0 12 68 80 [69, 70, 71, 72, 73, 74, 75, 76, 77, 78, 79] (by simp only [upd_at, Nat.reduceEqDiff, if_true, if_false, g58_0] <;> rfl)
      ·skip
       intro g68_1 J35 hJ35
       simp only [List.take_succ_cons, List.take_zero]
       simp only [anyAt_cons, anyAt_nil] at hJ35
       refine pops_mvg (.inl rfl) rfl rfl (by simp only [upd_at, Nat.reduceEqDiff, if_true, if_false, g58_0, g68_1]) (by simp only [St.eval, upd_at, Nat.reduceEqDiff, if_true, if_false, g58_0, g68_1] <;> rfl) ?_
       refine pops_do rfl rfl (by simp only [upd_at, Nat.reduceEqDiff, if_true, if_false, g58_0, g68_1]) fun M hM => ?_
       simp only [pop, St.eval, constSlot, upd_at, Nat.reduceEqDiff, if_true, if_false, popBin, binK, intK, eq_self, true_and, g58_0, g68_1]
       refine hM _ _ ?_
       clear hM M
       refine pops_mvg (.inl rfl) rfl rfl (by simp only [upd_at, Nat.reduceEqDiff, if_true, if_false, g58_0, g68_1]) (by simp only [St.eval, upd_at, Nat.reduceEqDiff, if_true, if_false, g58_0, g68_1] <;> rfl) ?_
       apply pops_and0 8 71 79 [72, 73, 74, 75, 76, 77, 78] (by simp only [upd_at, Nat.reduceEqDiff, if_true, if_false, g58_0, g68_1] <;> rfl)
       ·skip
        intro g71_2 J36 hJ36
        simp only [List.take_succ_cons, List.take_zero]
        simp only [anyAt_cons, anyAt_nil] at hJ36
        have hi0 : 0 < i := by have := of_decide_eq_true g71_2; omega
        have hw74 := wrapp (i := i) (by omega) hi0
        have hgp := encL_prev hi hi0
        rw [encG_eq] at hgp
        refine pops_mvg (.inl rfl) rfl rfl (by simp only [upd_at, Nat.reduceEqDiff, if_true, if_false, g58_0, g68_1, g71_2]) (by simp only [St.eval, upd_at, Nat.reduceEqDiff, if_false, e0_0, g58_0, g68_1, g71_2] <;> rfl) ?_
        refine pops_mvg (.inl rfl) rfl rfl (by simp only [upd_at, Nat.reduceEqDiff, if_true, if_false, g58_0, g68_1, g71_2]) (by simp only [St.eval, upd_at, Nat.reduceEqDiff, if_true, if_false, g58_0, g68_1, g71_2] <;> rfl) ?_
        refine pops_do rfl rfl (by simp only [upd_at, Nat.reduceEqDiff, if_true, if_false, g58_0, g68_1, g71_2]) fun M hM => ?_
        simp only [pop, St.eval, constSlot, upd_at, Nat.reduceEqDiff, if_true, if_false, popBin, binK, intK, eq_self, true_and, g58_0, g68_1, g71_2, hw74]
        refine hM _ _ ?_
        clear hM M
        refine pops_do rfl rfl (by simp only [upd_at, Nat.reduceEqDiff, if_true, if_false, g58_0, g68_1, g71_2]) fun M hM => ?_
        simp only [pop, St.eval, upd_at, Nat.reduceEqDiff, if_true, if_false, popIndexAddr, Tryd.underlying22, sz64, eq_self, true_and, g58_0, g68_1, g71_2, hgp, Int.toNat_natCast]
        refine ⟨Int.natCast_nonneg _, hM _ _ ?_⟩
        clear hM M
        refine pops_do rfl rfl (by simp only [upd_at, Nat.reduceEqDiff, if_true, if_false, g58_0, g68_1, g71_2]) fun M hM => ?_
        simp only [pop, St.eval, upd_at, Nat.reduceEqDiff, if_true, if_false, popFieldAddr, fieldOf, List.drop_zero, List.getElem?_toArray, List.getElem?_cons_zero, Tryd.underlying64, sz3, g58_0, g68_1, g71_2]
        refine ⟨⟨_, rfl⟩, hM _ _ ?_⟩
        clear hM M
        refine pops_do rfl rfl (by simp only [upd_at, Nat.reduceEqDiff, if_true, if_false, g58_0, g68_1, g71_2]) fun M hM => ?_
        simp only [pop, St.eval, upd_at, Nat.reduceEqDiff, if_true, if_false, popLoad, loadK, isAggD, Bool.false_eq_true, Tryd.underlying3, sz3, eq_self, g58_0, g68_1, g71_2]
        refine hM _ _ ?_
        clear hM M
        refine pops_do rfl rfl (by simp only [upd_at, Nat.reduceEqDiff, if_true, if_false, g58_0, g68_1, g71_2]) fun M hM => ?_
        simp only [pop, St.eval, constSlot, upd_at, Nat.reduceEqDiff, if_true, if_false, popBin, binK, intK, eq_self, true_and, g58_0, g68_1, g71_2]
        refine hM _ _ ?_
        clear hM M
        refine pops_do rfl rfl (by simp only [upd_at, Nat.reduceEqDiff, if_true, if_false, g58_0, g68_1, g71_2]) fun M hM => ?_
        simp only [pop, St.eval, constSlot, upd_at, Nat.reduceEqDiff, if_true, if_false, true_implies, false_implies, Bool.true_eq_false, and_true, g58_0, g68_1, g71_2]
        refine hM _ _ ?_
        clear hM M
        exact pops_done (hJ36 _ (wk_same (wk_any ((wk_any ((wk_any ((wk_any ((wk_any ((wk_any ((wk_any (Wk.refl _ _))))))))))))))))
       ·skip
        intro g71_2 J36 hJ36
        simp only [List.take_succ_cons, List.take_zero]
        simp only [anyAt_cons, anyAt_nil] at hJ36
        refine pops_off (b := false) rfl rfl (by simp only [upd_at, Nat.reduceEqDiff, if_true, if_false, g58_0, g68_1, g71_2]) (by decide) ?_
        refine pops_off (b := false) rfl rfl (by simp only [upd_at, Nat.reduceEqDiff, if_true, if_false, g58_0, g68_1, g71_2]) (by decide) ?_
        refine pops_off (b := false) rfl rfl (by simp only [upd_at, Nat.reduceEqDiff, if_true, if_false, g58_0, g68_1, g71_2]) (by decide) ?_
        refine pops_off (b := false) rfl rfl (by simp only [upd_at, Nat.reduceEqDiff, if_true, if_false, g58_0, g68_1, g71_2]) (by decide) ?_
        refine pops_off (b := false) rfl rfl (by simp only [upd_at, Nat.reduceEqDiff, if_true, if_false, g58_0, g68_1, g71_2]) (by decide) ?_
        refine pops_off (b := false) rfl rfl (by simp only [upd_at, Nat.reduceEqDiff, if_true, if_false, g58_0, g68_1, g71_2]) (by decide) ?_
        refine pops_off (b := false) rfl rfl (by simp only [upd_at, Nat.reduceEqDiff, if_true, if_false, g58_0, g68_1, g71_2]) (by decide) ?_
        refine pops_do rfl rfl (by simp only [upd_at, Nat.reduceEqDiff, if_true, if_false, g58_0, g68_1, g71_2]) fun M hM => ?_
        simp only [pop, St.eval, constSlot, upd_at, Nat.reduceEqDiff, if_true, if_false, true_implies, false_implies, Bool.false_eq_true, true_and, g58_0, g68_1, g71_2]
        refine hM _ _ ?_
        clear hM M
        exact pops_done (hJ36 _ (wk_same (wk_any ((wk_any ((wk_any ((wk_any ((wk_any ((wk_any ((wk_any (Wk.refl _ _))))))))))))))))
       simp only [List.drop_succ_cons, List.drop_zero, anyAt_cons, anyAt_nil]
       refine pops_do rfl rfl (by simp only [upd_at, Nat.reduceEqDiff, if_true, if_false, g58_0, g68_1]) fun M hM => ?_
       simp only [pop, St.eval, constSlot, upd_at, Nat.reduceEqDiff, if_true, if_false, true_implies, false_implies, Bool.false_eq_true, true_and, g58_0, g68_1]
       refine hM _ _ ?_
       clear hM M
       exact pops_done (hJ35 _ (wk_same (wk_any ((wk_any ((wk_any ((wk_any ((wk_any ((wk_any ((wk_any ((wk_any ((wk_any ((wk_any ((wk_any (Wk.refl _ _))))))))))))))))))))))))
      ·skip
       intro g68_1 J35 hJ35
       simp only [List.take_succ_cons, List.take_zero]
       simp only [anyAt_cons, anyAt_nil] at hJ35
       refine pops_off (b := true) rfl rfl (by simp only [upd_at, Nat.reduceEqDiff, if_true, if_false, g58_0, g68_1]) (by decide) ?_
       refine pops_off (b := true) rfl rfl (by simp only [upd_at, Nat.reduceEqDiff, if_true, if_false, g58_0, g68_1]) (by decide) ?_
       refine pops_off (b := true) rfl rfl (by simp only [upd_at, Nat.reduceEqDiff, if_true, if_false, g58_0, g68_1]) (by decide) ?_
       refine pops_off0 rfl rfl (by simp only [upd_at, Nat.reduceEqDiff, if_true, if_false, g58_0, g68_1]) ?_
       refine pops_off0 rfl rfl (by simp only [upd_at, Nat.reduceEqDiff, if_true, if_false, g58_0, g68_1]) ?_
       refine pops_off0 rfl rfl (by simp only [upd_at, Nat.reduceEqDiff, if_true, if_false, g58_0, g68_1]) ?_
       refine pops_off0 rfl rfl (by simp only [upd_at, Nat.reduceEqDiff, if_true, if_false, g58_0, g68_1]) ?_
       refine pops_off0 rfl rfl (by simp only [upd_at, Nat.reduceEqDiff, if_true, if_false, g58_0, g68_1]) ?_
       refine pops_off0 rfl rfl (by simp only [upd_at, Nat.reduceEqDiff, if_true, if_false, g58_0, g68_1]) ?_
       refine pops_off0 rfl rfl (by simp only [upd_at, Nat.reduceEqDiff, if_true, if_false, g58_0, g68_1]) ?_
       refine pops_off (b := true) rfl rfl (by simp only [upd_at, Nat.reduceEqDiff, if_true, if_false, g58_0, g68_1]) (by decide) ?_
       refine pops_do rfl rfl (by simp only [upd_at, Nat.reduceEqDiff, if_true, if_false, g58_0, g68_1]) fun M hM => ?_
       simp only [pop, St.eval, constSlot, upd_at, Nat.reduceEqDiff, if_true, if_false, true_implies, false_implies, Bool.true_eq_false, and_true, g58_0, g68_1]
       refine hM _ _ ?_
       clear hM M
       exact pops_done (hJ35 _ (wk_same (wk_any ((wk_any ((wk_any ((wk_any ((wk_any ((wk_any ((wk_any ((wk_any ((wk_any ((wk_any ((wk_any (Wk.refl _ _))))))))))))))))))))))))
      simp only [List.drop_succ_cons, List.drop_zero, anyAt_cons, anyAt_nil]
      refine pops_to rfl fun M hM => ?_
      simp only [pop, St.eval, constSlot, upd_at, Nat.reduceEqDiff, if_true, if_false, true_implies, false_implies, Bool.true_eq_false, and_true, g58_0]
      refine hM _ _ ?_
      clear hM M
      exact pops_done (hJ33 _ _ sj34 (wk_same (wk_any ((wk_any ((wk_any ((wk_any ((wk_any ((wk_any ((wk_any ((wk_any ((wk_any ((wk_any ((wk_any ((wk_any ((wk_any ((wk_any ((wk_any ((wk_any ((wk_any ((wk_any ((wk_any ((wk_any ((wk_any ((wk_any (Wk.refl _ _))))))))))))))))))))))))))))))))))))))))))))))
     ·skip
      intro g58_0 J33 hJ33
      simp only [List.take_succ_cons, List.take_zero]
      simp only [anyAt_cons, anyAt_nil] at hJ33
      refine pops_off (b := false) rfl rfl (by simp only [upd_at, Nat.reduceEqDiff, if_true, if_false, g58_0]) (by decide) ?_
      refine pops_off (b := false) rfl rfl (by simp only [upd_at, Nat.reduceEqDiff, if_true, if_false, g58_0]) (by decide) ?_
      refine pops_off (b := false) rfl rfl (by simp only [upd_at, Nat.reduceEqDiff, if_true, if_false, g58_0]) (by decide) ?_
      refine pops_off (b := false) rfl rfl (by simp only [upd_at, Nat.reduceEqDiff, if_true, if_false, g58_0]) (by decide) ?_
      refine pops_off0 rfl rfl (by simp only [upd_at, Nat.reduceEqDiff, if_true, if_false, g58_0]) ?_
      refine pops_off0 rfl rfl (by simp only [upd_at, Nat.reduceEqDiff, if_true, if_false, g58_0]) ?_
      refine pops_off0 rfl rfl (by simp only [upd_at, Nat.reduceEqDiff, if_true, if_false, g58_0]) ?_
      refine pops_off0 rfl rfl (by simp only [upd_at, Nat.reduceEqDiff, if_true, if_false, g58_0]) ?_
      refine pops_off (b := false) rfl rfl (by simp only [upd_at, Nat.reduceEqDiff, if_true, if_false, g58_0]) (by decide) ?_
      refine pops_off (b := false) rfl rfl (by simp only [upd_at, Nat.reduceEqDiff, if_true, if_false, g58_0]) (by decide) ?_
      refine pops_off0 rfl rfl (by simp only [upd_at, Nat.reduceEqDiff, if_true, if_false, g58_0]) ?_
      refine pops_off0 rfl rfl (by simp only [upd_at, Nat.reduceEqDiff, if_true, if_false, g58_0]) ?_
      refine pops_off0 rfl rfl (by simp only [upd_at, Nat.reduceEqDiff, if_true, if_false, g58_0]) ?_
      refine pops_off0 rfl rfl (by simp only [upd_at, Nat.reduceEqDiff, if_true, if_false, g58_0]) ?_
      refine pops_off0 rfl rfl (by simp only [upd_at, Nat.reduceEqDiff, if_true, if_false, g58_0]) ?_
      refine pops_off0 rfl rfl (by simp only [upd_at, Nat.reduceEqDiff, if_true, if_false, g58_0]) ?_
      refine pops_off0 rfl rfl (by simp only [upd_at, Nat.reduceEqDiff, if_true, if_false, g58_0]) ?_
      refine pops_off0 rfl rfl (by simp only [upd_at, Nat.reduceEqDiff, if_true, if_false, g58_0]) ?_
      refine pops_off0 rfl rfl (by simp only [upd_at, Nat.reduceEqDiff, if_true, if_false, g58_0]) ?_
      refine pops_off0 rfl rfl (by simp only [upd_at, Nat.reduceEqDiff, if_true, if_false, g58_0]) ?_
      refine pops_off0 rfl rfl (by simp only [upd_at, Nat.reduceEqDiff, if_true, if_false, g58_0]) ?_
      refine pops_off (b := false) rfl rfl (by simp only [upd_at, Nat.reduceEqDiff, if_true, if_false, g58_0]) (by decide) ?_
      refine pops_to rfl fun M hM => ?_
      simp only [pop, St.eval, constSlot, upd_at, Nat.reduceEqDiff, if_true, if_false, true_implies, false_implies, Bool.false_eq_true, true_and, g58_0]
      refine hM _ _ ?_
      clear hM M
      exact pops_done (hJ33 _ _ (Same.refl _) (wk_same (wk_any ((wk_any ((wk_any ((wk_any ((wk_any ((wk_any ((wk_any ((wk_any ((wk_any ((wk_any ((wk_any ((wk_any ((wk_any ((wk_any ((wk_any ((wk_any ((wk_any ((wk_any ((wk_any ((wk_any ((wk_any ((wk_any (Wk.refl _ _))))))))))))))))))))))))))))))))))))))))))))))
     simp only [List.drop_succ_cons, List.drop_zero, anyAt_cons, anyAt_nil]
     intro hj33 sj33
     replace sj33 := Same.trans sj27 sj33
     refine pops_mv (.inl rfl) rfl (by simp only [St.eval, upd_at, Nat.reduceEqDiff, if_true, if_false] <;> rfl) ?_
     apply pops_or0 10 82 92 [83, 84, 85, 86, 87, 88, 89, 90, 91] (by simp only [upd_at, Nat.reduceEqDiff, if_true, if_false] <;> rfl)
     ·skip
      intro g82_0 J37 hJ37
      simp only [List.take_succ_cons, List.take_zero]
      simp only [anyAt_cons, anyAt_nil] at hJ37
      refine pops_do rfl rfl (by simp only [upd_at, Nat.reduceEqDiff, if_true, if_false, g82_0]) fun M hM => ?_
      simp only [pop, St.eval, upd_at, Nat.reduceEqDiff, if_true, if_false, popFieldAddr, fieldOf, List.drop_zero, List.getElem?_toArray, List.getElem?_cons_zero, Tryd.underlying64, sz3, g82_0]
      refine ⟨⟨_, rfl⟩, hM _ _ ?_⟩
      clear hM M
      refine pops_do rfl rfl (by simp only [upd_at, Nat.reduceEqDiff, if_true, if_false, g82_0]) fun M hM => ?_
      simp only [pop, St.eval, upd_at, Nat.reduceEqDiff, if_true, if_false, popLoad, loadK, isAggD, Bool.false_eq_true, Tryd.underlying3, sz3, eq_self, g82_0]
      refine hM _ _ ?_
      clear hM M
      refine pops_do rfl rfl (by simp only [upd_at, Nat.reduceEqDiff, if_true, if_false, g82_0]) fun M hM => ?_
      simp only [pop, St.eval, constSlot, upd_at, Nat.reduceEqDiff, if_true, if_false, popBin, binK, intK, eq_self, true_and, g82_0]
      refine hM _ _ ?_
      clear hM M
      refine pops_mvg (.inl rfl) rfl rfl (by simp only [upd_at, Nat.reduceEqDiff, if_true, if_false, g82_0]) (by simp only [St.eval, upd_at, Nat.reduceEqDiff, if_true, if_false, g82_0] <;> rfl) ?_
      apply pops_and0 5 86 91 [87, 88, 89, 90] (by simp only [upd_at, Nat.reduceEqDiff, if_true, if_false, g82_0] <;> rfl)
      ·skip
       intro g86_1 J38 hJ38
       simp only [List.take_succ_cons, List.take_zero]
       simp only [anyAt_cons, anyAt_nil] at hJ38
       refine pops_do rfl rfl (by simp only [upd_at, Nat.reduceEqDiff, if_true, if_false, g82_0, g86_1]) fun M hM => ?_
       simp only [pop, St.eval, upd_at, Nat.reduceEqDiff, if_true, if_false, popFieldAddr, fieldOf, List.drop_succ_cons, List.drop_zero, List.getElem?_toArray, List.getElem?_cons_zero, List.getElem?_cons_succ, Tryd.underlying64, sz61, g82_0, g86_1]
       refine ⟨⟨_, rfl⟩, hM _ _ ?_⟩
       clear hM M
       refine pops_do rfl rfl (by simp only [upd_at, Nat.reduceEqDiff, if_true, if_false, g82_0, g86_1]) fun M hM => ?_
       simp only [pop, St.eval, upd_at, Nat.reduceEqDiff, if_true, if_false, popLoad, loadK, isAggD, Bool.false_eq_true, Tryd.underlying61, sz61, eq_self, g82_0, g86_1]
       refine hM _ _ ?_
       clear hM M
       refine pops_do rfl rfl (by simp only [upd_at, Nat.reduceEqDiff, if_true, if_false, g82_0, g86_1]) fun M hM => ?_
       simp only [pop, St.eval, upd_at, Nat.reduceEqDiff, if_true, if_false, popCall, List.map_cons, List.map_nil, popBuiltin, popLen, lenOfSlot, List.length_map, Tryd.underlying61, eq_self, g82_0, g86_1, List.length_map]
       refine hM _ _ ?_
       clear hM M
       refine pops_do rfl rfl (by simp only [upd_at, Nat.reduceEqDiff, if_true, if_false, g82_0, g86_1]) fun M hM => ?_
       simp only [pop, St.eval, constSlot, upd_at, Nat.reduceEqDiff, if_true, if_false, popBin, binK, intK, eq_self, true_and, g82_0, g86_1]
       refine hM _ _ ?_
       clear hM M
       refine pops_do rfl rfl (by simp only [upd_at, Nat.reduceEqDiff, if_true, if_false, g82_0, g86_1]) fun M hM => ?_
       simp only [pop, St.eval, constSlot, upd_at, Nat.reduceEqDiff, if_true, if_false, true_implies, false_implies, Bool.true_eq_false, and_true, g82_0, g86_1]
       refine hM _ _ ?_
       clear hM M
       exact pops_done (hJ38 _ (wk_same (wk_any ((wk_any ((wk_any ((wk_any (Wk.refl _ _))))))))))
      ·skip
       intro g86_1 J38 hJ38
       simp only [List.take_succ_cons, List.take_zero]
       simp only [anyAt_cons, anyAt_nil] at hJ38
       refine pops_off (b := false) rfl rfl (by simp only [upd_at, Nat.reduceEqDiff, if_true, if_false, g82_0, g86_1]) (by decide) ?_
       refine pops_off (b := false) rfl rfl (by simp only [upd_at, Nat.reduceEqDiff, if_true, if_false, g82_0, g86_1]) (by decide) ?_
       refine pops_off (b := false) rfl rfl (by simp only [upd_at, Nat.reduceEqDiff, if_true, if_false, g82_0, g86_1]) (by decide) ?_
       refine pops_off (b := false) rfl rfl (by simp only [upd_at, Nat.reduceEqDiff, if_true, if_false, g82_0, g86_1]) (by decide) ?_
       refine pops_do rfl rfl (by simp only [upd_at, Nat.reduceEqDiff, if_true, if_false, g82_0, g86_1]) fun M hM => ?_
       simp only [pop, St.eval, constSlot, upd_at, Nat.reduceEqDiff, if_true, if_false, true_implies, false_implies, Bool.false_eq_true, true_and, g82_0, g86_1]
       refine hM _ _ ?_
       clear hM M
       exact pops_done (hJ38 _ (wk_same (wk_any ((wk_any ((wk_any ((wk_any (Wk.refl _ _))))))))))
      simp only [List.drop_succ_cons, List.drop_zero, anyAt_cons, anyAt_nil]
      refine pops_to rfl fun M hM => ?_
      simp only [pop, St.eval, constSlot, upd_at, Nat.reduceEqDiff, if_true, if_false, true_implies, false_implies, Bool.false_eq_true, true_and, g82_0]
      refine hM _ _ ?_
      clear hM M
      exact pops_done (hJ37 _ (wk_same (wk_any ((wk_any ((wk_any ((wk_any ((wk_any ((wk_any ((wk_any ((wk_any ((wk_any (Wk.refl _ _))))))))))))))))))))
     ·skip
      intro g82_0 J37 hJ37
      simp only [List.take_succ_cons, List.take_zero]
      simp only [anyAt_cons, anyAt_nil] at hJ37
      refine pops_off (b := true) rfl rfl (by simp only [upd_at, Nat.reduceEqDiff, if_true, if_false, g82_0]) (by decide) ?_
      refine pops_off (b := true) rfl rfl (by simp only [upd_at, Nat.reduceEqDiff, if_true, if_false, g82_0]) (by decide) ?_
      refine pops_off (b := true) rfl rfl (by simp only [upd_at, Nat.reduceEqDiff, if_true, if_false, g82_0]) (by decide) ?_
      refine pops_off (b := true) rfl rfl (by simp only [upd_at, Nat.reduceEqDiff, if_true, if_false, g82_0]) (by decide) ?_
      refine pops_off0 rfl rfl (by simp only [upd_at, Nat.reduceEqDiff, if_true, if_false, g82_0]) ?_
      refine pops_off0 rfl rfl (by simp only [upd_at, Nat.reduceEqDiff, if_true, if_false, g82_0]) ?_
      refine pops_off0 rfl rfl (by simp only [upd_at, Nat.reduceEqDiff, if_true, if_false, g82_0]) ?_
      refine pops_off0 rfl rfl (by simp only [upd_at, Nat.reduceEqDiff, if_true, if_false, g82_0]) ?_
      refine pops_off (b := true) rfl rfl (by simp only [upd_at, Nat.reduceEqDiff, if_true, if_false, g82_0]) (by decide) ?_
      refine pops_to rfl fun M hM => ?_
      simp only [pop, St.eval, constSlot, upd_at, Nat.reduceEqDiff, if_true, if_false, true_implies, false_implies, Bool.true_eq_false, and_true, g82_0]
      refine hM _ _ ?_
      clear hM M
      exact pops_done (hJ37 _ (wk_same (wk_any ((wk_any ((wk_any ((wk_any ((wk_any ((wk_any ((wk_any ((wk_any ((wk_any (Wk.refl _ _))))))))))))))))))))
     simp only [List.drop_succ_cons, List.drop_zero, anyAt_cons, anyAt_nil]
     refine pops_mv (.inl rfl) rfl (by simp only [St.eval, upd_at, Nat.reduceEqDiff, if_true, if_false] <;> rfl) ?_
     apply pops_or0 10 93 103 [94, 95, 96, 97, 98, 99, 100, 101, 102] (by simp only [upd_at, Nat.reduceEqDiff, if_true, if_false] <;> rfl)
     ·skip
      intro g93_0 J39 hJ39
      simp only [List.take_succ_cons, List.take_zero]
      simp only [anyAt_cons, anyAt_nil] at hJ39
      refine pops_do rfl rfl (by simp only [upd_at, Nat.reduceEqDiff, if_true, if_false, g93_0]) fun M hM => ?_
      simp only [pop, St.eval, upd_at, Nat.reduceEqDiff, if_true, if_false, popFieldAddr, fieldOf, List.drop_zero, List.getElem?_toArray, List.getElem?_cons_zero, Tryd.underlying64, sz3, g93_0]
      refine ⟨⟨_, rfl⟩, hM _ _ ?_⟩
      clear hM M
      refine pops_do rfl rfl (by simp only [upd_at, Nat.reduceEqDiff, if_true, if_false, g93_0]) fun M hM => ?_
      simp only [pop, St.eval, upd_at, Nat.reduceEqDiff, if_true, if_false, popLoad, loadK, isAggD, Bool.false_eq_true, Tryd.underlying3, sz3, eq_self, g93_0]
      refine hM _ _ ?_
      clear hM M
      refine pops_do rfl rfl (by simp only [upd_at, Nat.reduceEqDiff, if_true, if_false, g93_0]) fun M hM => ?_
      simp only [pop, St.eval, constSlot, upd_at, Nat.reduceEqDiff, if_true, if_false, popBin, binK, intK, eq_self, true_and, g93_0]
      refine hM _ _ ?_
      clear hM M
      refine pops_mvg (.inl rfl) rfl rfl (by simp only [upd_at, Nat.reduceEqDiff, if_true, if_false, g93_0]) (by simp only [St.eval, upd_at, Nat.reduceEqDiff, if_true, if_false, g93_0] <;> rfl) ?_
      apply pops_and0 5 97 102 [98, 99, 100, 101] (by simp only [upd_at, Nat.reduceEqDiff, if_true, if_false, g93_0] <;> rfl)
      ·skip
       intro g97_1 J40 hJ40
       simp only [List.take_succ_cons, List.take_zero]
       simp only [anyAt_cons, anyAt_nil] at hJ40
       refine pops_do rfl rfl (by simp only [upd_at, Nat.reduceEqDiff, if_true, if_false, g93_0, g97_1]) fun M hM => ?_
       simp only [pop, St.eval, upd_at, Nat.reduceEqDiff, if_true, if_false, popFieldAddr, fieldOf, List.drop_succ_cons, List.drop_zero, List.getElem?_toArray, List.getElem?_cons_zero, List.getElem?_cons_succ, Tryd.underlying64, sz62, g93_0, g97_1]
       refine ⟨⟨_, rfl⟩, hM _ _ ?_⟩
       clear hM M
       refine pops_do rfl rfl (by simp only [upd_at, Nat.reduceEqDiff, if_true, if_false, g93_0, g97_1]) fun M hM => ?_
       simp only [pop, St.eval, upd_at, Nat.reduceEqDiff, if_true, if_false, popLoad, loadK, isAggD, Bool.false_eq_true, Tryd.underlying62, sz62, eq_self, g93_0, g97_1]
       refine hM _ _ ?_
       clear hM M
       refine pops_do rfl rfl (by simp only [upd_at, Nat.reduceEqDiff, if_true, if_false, g93_0, g97_1]) fun M hM => ?_
       simp only [pop, St.eval, upd_at, Nat.reduceEqDiff, if_true, if_false, popCall, List.map_cons, List.map_nil, popBuiltin, popLen, lenOfSlot, Tryd.underlying62, eq_self, g93_0, g97_1, encW_len]
       refine hM _ _ ?_
       clear hM M
       refine pops_do rfl rfl (by simp only [upd_at, Nat.reduceEqDiff, if_true, if_false, g93_0, g97_1]) fun M hM => ?_
       simp only [pop, St.eval, constSlot, upd_at, Nat.reduceEqDiff, if_true, if_false, popBin, binK, intK, eq_self, true_and, g93_0, g97_1]
       refine hM _ _ ?_
       clear hM M
       refine pops_do rfl rfl (by simp only [upd_at, Nat.reduceEqDiff, if_true, if_false, g93_0, g97_1]) fun M hM => ?_
       simp only [pop, St.eval, constSlot, upd_at, Nat.reduceEqDiff, if_true, if_false, true_implies, false_implies, Bool.true_eq_false, and_true, g93_0, g97_1]
       refine hM _ _ ?_
       clear hM M
       exact pops_done (hJ40 _ (wk_same (wk_any ((wk_any ((wk_any ((wk_any (Wk.refl _ _))))))))))
      ·skip
       intro g97_1 J40 hJ40
       simp only [List.take_succ_cons, List.take_zero]
       simp only [anyAt_cons, anyAt_nil] at hJ40
       refine pops_off (b := false) rfl rfl (by simp only [upd_at, Nat.reduceEqDiff, if_true, if_false, g93_0, g97_1]) (by decide) ?_
       refine pops_off (b := false) rfl rfl (by simp only [upd_at, Nat.reduceEqDiff, if_true, if_false, g93_0, g97_1]) (by decide) ?_
       refine pops_off (b := false) rfl rfl (by simp only [upd_at, Nat.reduceEqDiff, if_true, if_false, g93_0, g97_1]) (by decide) ?_
       refine pops_off (b := false) rfl rfl (by simp only [upd_at, Nat.reduceEqDiff, if_true, if_false, g93_0, g97_1]) (by decide) ?_
       refine pops_do rfl rfl (by simp only [upd_at, Nat.reduceEqDiff, if_true, if_false, g93_0, g97_1]) fun M hM => ?_
       simp only [pop, St.eval, constSlot, upd_at, Nat.reduceEqDiff, if_true, if_false, true_implies, false_implies, Bool.false_eq_true, true_and, g93_0, g97_1]
       refine hM _ _ ?_
       clear hM M
       exact pops_done (hJ40 _ (wk_same (wk_any ((wk_any ((wk_any ((wk_any (Wk.refl _ _))))))))))
      simp only [List.drop_succ_cons, List.drop_zero, anyAt_cons, anyAt_nil]
      refine pops_to rfl fun M hM => ?_
      simp only [pop, St.eval, constSlot, upd_at, Nat.reduceEqDiff, if_true, if_false, true_implies, false_implies, Bool.false_eq_true, true_and, g93_0]
      refine hM _ _ ?_
      clear hM M
      exact pops_done (hJ39 _ (wk_same (wk_any ((wk_any ((wk_any ((wk_any ((wk_any ((wk_any ((wk_any ((wk_any ((wk_any (Wk.refl _ _))))))))))))))))))))
     ·skip
      intro g93_0 J39 hJ39
      simp only [List.take_succ_cons, List.take_zero]
      simp only [anyAt_cons, anyAt_nil] at hJ39
      refine pops_off (b := true) rfl rfl (by simp only [upd_at, Nat.reduceEqDiff, if_true, if_false, g93_0]) (by decide) ?_
      refine pops_off (b := true) rfl rfl (by simp only [upd_at, Nat.reduceEqDiff, if_true, if_false, g93_0]) (by decide) ?_
      refine pops_off (b := true) rfl rfl (by simp only [upd_at, Nat.reduceEqDiff, if_true, if_false, g93_0]) (by decide) ?_
      refine pops_off (b := true) rfl rfl (by simp only [upd_at, Nat.reduceEqDiff, if_true, if_false, g93_0]) (by decide) ?_
      refine pops_off0 rfl rfl (by simp only [upd_at, Nat.reduceEqDiff, if_true, if_false, g93_0]) ?_
      refine pops_off0 rfl rfl (by simp only [upd_at, Nat.reduceEqDiff, if_true, if_false, g93_0]) ?_
      refine pops_off0 rfl rfl (by simp only [upd_at, Nat.reduceEqDiff, if_true, if_false, g93_0]) ?_
      refine pops_off0 rfl rfl (by simp only [upd_at, Nat.reduceEqDiff, if_true, if_false, g93_0]) ?_
      refine pops_off (b := true) rfl rfl (by simp only [upd_at, Nat.reduceEqDiff, if_true, if_false, g93_0]) (by decide) ?_
      refine pops_to rfl fun M hM => ?_
      simp only [pop, St.eval, constSlot, upd_at, Nat.reduceEqDiff, if_true, if_false, true_implies, false_implies, Bool.true_eq_false, and_true, g93_0]
      refine hM _ _ ?_
      clear hM M
      exact pops_done (hJ39 _ (wk_same (wk_any ((wk_any ((wk_any ((wk_any ((wk_any ((wk_any ((wk_any ((wk_any ((wk_any (Wk.refl _ _))))))))))))))))))))
     simp only [List.drop_succ_cons, List.drop_zero, anyAt_cons, anyAt_nil]
     refine pops_done (hR32 _ ?_)
     clear hR32 R32
     try simp only [thenK]
     refine hN31 _ ?_
     clear hN31 N31
     refine pwp_cond (by simp only [St.eval, upd_at, Nat.reduceEqDiff, if_true, if_false] <;> rfl) (fun c103 => ?_) (fun c103 => ?_)
     ·skip
      rw [lenZ0, lenZ0, ix_has, ← htp] at c103
      rw [c103] at hrf
      rw [chk6_yes hrf.symm] at hst
      refine pwp_then fun N41 hN41 => ?_
      refine pwp_reg fun R42 hR42 => ?_
      refine pops_mv (.inr rfl) rfl (by simp only [St.eval, constSlot] <;> rfl) ?_
      refine pops_done (hR42 _ ?_)
      clear hR42 R42
      try simp only [thenK]
      refine hN41 _ ?_
      clear hN41 N41
      refine pwp_ret ?_
      simp only [thenK, blockK, bodyK]
      clear hN30 N30 hN9 N9 hN3 N3
      refine ⟨_, rfl, endFun sj33 ?_⟩
      try simp only [upd_at, Nat.reduceEqDiff, if_true, if_false]
      all_goals
       rw [hst]
     ·skip
      rw [lenZ0, lenZ0, ix_has, ← htp] at c103
      rw [c103] at hrf
      rw [chk6_no hrf.symm] at hst
      refine pwp_skip ?_
      try simp only [thenK]
      refine hN30 _ ?_
      clear hN30 N30
      refine pwp_then fun N43 hN43 => ?_
      refine pwp_then fun N44 hN44 => ?_
      refine pwp_reg fun R45 hR45 => ?_
      refine pops_to rfl fun M hM => ?_
      simp only [pop, St.eval, upd_at, Nat.reduceEqDiff, if_true, if_false, popFieldAddr, fieldOf, List.drop_succ_cons, List.drop_zero, List.getElem?_toArray, List.getElem?_cons_zero, List.getElem?_cons_succ, Tryd.underlying64, sz61]
      refine ⟨⟨_, rfl⟩, hM _ _ ?_⟩
      clear hM M
      refine pops_to rfl fun M hM => ?_
      simp only [pop, St.eval, upd_at, Nat.reduceEqDiff, if_true, if_false, popLoad, loadK, isAggD, Bool.false_eq_true, Tryd.underlying61, sz61, eq_self]
      refine hM _ _ ?_
      clear hM M
      refine pops_to rfl fun M hM => ?_
      simp only [pop, St.eval, upd_at, Nat.reduceEqDiff, if_true, if_false, popCall, List.map_cons, List.map_nil, popBuiltin, popLen, lenOfSlot, List.length_map, Tryd.underlying61, eq_self, List.length_map]
      refine hM _ _ ?_
      clear hM M
      refine pops_mv (.inl rfl) rfl (by simp only [St.eval, constSlot] <;> rfl) ?_
      refine pops_done (hR45 _ ?_)
      clear hR45 R45
      try simp only [thenK]
      refine hN44 _ ?_
      clear hN44 N44
      refine pwp_block ?_
      refine pwp_loop (fun k σ => ∃ (q : Nat), (k = g.ranges.length - q) ∧ (q ≤ g.ranges.length) ∧ (rngE (prevR g.ranges q) (g.ranges.drop q) = rngE none g.ranges) ∧ (∀ y ∈ g.ranges.take q, rngBad y = false) ∧ (Same h σ.hp) ∧ (σ.env 0 = .sv (.one (.ro false 5 (encL l)))) ∧ (σ.env 11 = .sv (.one (.ro false 5 (encL l)))) ∧ (σ.env 12 = .sv (.one (pint (l.length : Nat)))) ∧ (σ.env 13 = .sv (.one (pint (i : Nat)))) ∧ (σ.env 4 = .sv (.one (.rop [pint g.kind, pstr g.text, pbool g.neg, .ro false 2 (rngPV g.ranges), .ro false 1 (encW g.ways)]))) ∧ (σ.env 105 = .sv (.one (.ro false 2 (rngPV g.ranges)))) ∧ (σ.env 106 = .sv (.one (pint (g.ranges.length : Nat)))) ∧ (σ.env 107 = .sv (.one (pint (q : Nat))))) _ ⟨_, .refl _ _, 0, rfl, ?_⟩ ?_
      · exact ⟨Nat.zero_le _, rfl, by simp, sj33, by simp only [upd_at, Nat.reduceEqDiff, if_false, e0_0], by simp only [upd_at, Nat.reduceEqDiff, if_false, e0_11], by simp only [upd_at, Nat.reduceEqDiff, if_false, e0_12], by simp only [upd_at, Nat.reduceEqDiff, if_false, e0_13], by simp only [upd_at, Nat.reduceEqDiff, if_true, if_false], by simp only [upd_at, Nat.reduceEqDiff, if_true, if_false], by first | rfl | (simp only [upd_at, Nat.reduceEqDiff, if_true, if_false]; rfl), by first | rfl | (simp only [upd_at, Nat.reduceEqDiff, if_true, if_false]; rfl)⟩
      ·rintro k ⟨e, hp1⟩ ⟨q, hk1, hx1_0, hx1_1, hx1_2, sl1, e1_0, e1_11, e1_12, e1_13, e1_4, e1_105, e1_106, e1_107⟩
       simp only at sl1 e1_0 e1_11 e1_12 e1_13 e1_4 e1_105 e1_106 e1_107
       refine pwp_then fun N46 hN46 => ?_
       refine pwp_reg fun R47 hR47 => ?_
       refine pops_to rfl fun M hM => ?_
       simp only [pop, St.eval, popBin, binK, intK, eq_self, true_and, e1_106, e1_107]
       refine hM _ _ ?_
       clear hM M
       refine pops_done (hR47 _ ?_)
       clear hR47 R47
       try simp only [thenK]
       refine hN46 _ ?_
       clear hN46 N46
       refine pwp_then fun N48 hN48 => ?_
       refine pwp_cond (by simp only [St.eval, upd_at, if_true] <;> rfl) (fun c108 => ?_) (fun c108 => ?_)
       ·skip
        have hqi : q < g.ranges.length := by have := of_decide_eq_true c108; omega
        obtain ⟨x, hx⟩ : ∃ x, g.ranges[q]? = some x := ⟨_, List.getElem?_eq_getElem hqi⟩
        have hgr := rng_at hx
        have hrs := rng_step hx
        rw [hx1_1] at hrs
        refine pwp_skip ?_
        try simp only [thenK]
        refine hN48 _ ?_
        clear hN48 N48
        refine pwp_then fun N49 hN49 => ?_
        refine pwp_block ?_
        refine pwp_then fun N50 hN50 => ?_
        refine pwp_reg fun R51 hR51 => ?_
        refine pops_mv (.inl rfl) rfl (by simp only [St.eval, upd_at, Nat.reduceEqDiff, if_false, e1_107] <;> rfl) ?_
        refine pops_to rfl fun M hM => ?_
        simp only [pop, St.eval, upd_at, Nat.reduceEqDiff, if_false, popIndexAddr, Tryd.underlying61, sz67, eq_self, true_and, e1_105, e1_107, hgr, Int.toNat_natCast]
        refine ⟨Int.natCast_nonneg _, hM _ _ ?_⟩
        clear hM M
        refine pops_to rfl fun M hM => ?_
        simp only [pop, St.eval, upd_at, Nat.reduceEqDiff, if_true, if_false, List.length_cons, List.length_nil, Nat.zero_add, Nat.reduceAdd, Nat.reduceLeDiff, List.take_succ_cons, List.take_nil, popLoad, loadK, isAggD, Tryd.underlying67, sz67, eq_self, true_and]
        refine hM _ _ ?_
        clear hM M
        refine pops_valloc rfl ze67 (zs := [PV.val (.int .i64 0), PV.val (.int .i64 0)]) (by kernel_rfl) (by exact Nat.succ_pos _) (fun id52 hid52 => ?_)
        refine pops_mv (.inr rfl) rfl (by simp only [St.eval, upd_at, Nat.reduceEqDiff, if_true, if_false] <;> rfl) ?_
        refine pops_vstore (zs := [PV.val (.int .i64 0), PV.val (.int .i64 0)]) (hpOk.same hb sl1) hid52 (by simp only [upd_at, Nat.reduceEqDiff, if_true, if_false]) (by simp only [St.eval, slotCells, upd_at, Nat.reduceEqDiff, if_true, if_false] <;> rfl) (by rfl) (by rw [sz67]; rfl) (fun hv53 sv53 => ?_)
        replace sv53 := Same.trans sl1 sv53
        refine pops_done (hR51 _ ?_)
        clear hR51 R51
        try simp only [thenK]
        refine hN50 _ ?_
        clear hN50 N50
        refine pwp_then fun N54 hN54 => ?_
        refine pwp_then fun N55 hN55 => ?_
        refine pwp_reg fun R56 hR56 => ?_
        refine pops_to rfl fun M hM => ?_
        simp only [pop, St.eval, constSlot, upd_at, Nat.reduceEqDiff, if_true, if_false, popIndexAddr, Tryd.underlying67, sz3, eq_self]
        refine ⟨by decide, by decide, hM _ _ ?_⟩
        clear hM M
        refine pops_to rfl fun M hM => ?_
        simp only [pop, St.eval, upd_at, Nat.reduceEqDiff, if_true, if_false, popLoad, loadK, isAggD, Bool.false_eq_true, Tryd.underlying3, sz3, eq_self]
        refine hM _ _ ?_
        clear hM M
        refine pops_to rfl fun M hM => ?_
        simp only [pop, St.eval, constSlot, upd_at, Nat.reduceEqDiff, if_true, if_false, popBin, binK, intK, eq_self, true_and]
        refine hM _ _ ?_
        clear hM M
        refine pops_mv (.inl rfl) rfl (by simp only [St.eval, upd_at, Nat.reduceEqDiff, if_true, if_false] <;> rfl) ?_
        apply pops_or0 4 115 119 [116, 117, 118] (by simp only [upd_at, Nat.reduceEqDiff, if_true, if_false] <;> rfl)
        ·skip
         intro g115_0 J57 hJ57
         simp only [List.take_succ_cons, List.take_zero]
         simp only [anyAt_cons, anyAt_nil] at hJ57
         refine pops_do rfl rfl (by simp only [upd_at, Nat.reduceEqDiff, if_true, if_false, g115_0]) fun M hM => ?_
         simp only [pop, St.eval, constSlot, upd_at, Nat.reduceEqDiff, if_true, if_false, popIndexAddr, Tryd.underlying67, sz3, eq_self, g115_0]
         refine ⟨by decide, by decide, hM _ _ ?_⟩
         clear hM M
         refine pops_do rfl rfl (by simp only [upd_at, Nat.reduceEqDiff, if_true, if_false, g115_0]) fun M hM => ?_
         simp only [pop, St.eval, upd_at, Nat.reduceEqDiff, if_true, if_false, popLoad, loadK, isAggD, Bool.false_eq_true, Tryd.underlying3, sz3, eq_self, g115_0]
         refine hM _ _ ?_
         clear hM M
         refine pops_do rfl rfl (by simp only [upd_at, Nat.reduceEqDiff, if_true, if_false, g115_0]) fun M hM => ?_
         simp only [pop, St.eval, constSlot, upd_at, Nat.reduceEqDiff, if_true, if_false, popBin, binK, intK, eq_self, true_and, g115_0]
         refine hM _ _ ?_
         clear hM M
         refine pops_to rfl fun M hM => ?_
         simp only [pop, St.eval, constSlot, upd_at, Nat.reduceEqDiff, if_true, if_false, true_implies, false_implies, Bool.false_eq_true, true_and, g115_0]
         refine hM _ _ ?_
         clear hM M
         exact pops_done (hJ57 _ (wk_same (wk_any ((wk_any ((wk_any (Wk.refl _ _))))))))
        ·skip
         intro g115_0 J57 hJ57
         simp only [List.take_succ_cons, List.take_zero]
         simp only [anyAt_cons, anyAt_nil] at hJ57
         refine pops_off (b := true) rfl rfl (by simp only [upd_at, Nat.reduceEqDiff, if_true, if_false, g115_0]) (by decide) ?_
         refine pops_off (b := true) rfl rfl (by simp only [upd_at, Nat.reduceEqDiff, if_true, if_false, g115_0]) (by decide) ?_
         refine pops_off (b := true) rfl rfl (by simp only [upd_at, Nat.reduceEqDiff, if_true, if_false, g115_0]) (by decide) ?_
         refine pops_to rfl fun M hM => ?_
         simp only [pop, St.eval, constSlot, upd_at, Nat.reduceEqDiff, if_true, if_false, true_implies, false_implies, Bool.true_eq_false, and_true, g115_0]
         refine hM _ _ ?_
         clear hM M
         exact pops_done (hJ57 _ (wk_same (wk_any ((wk_any ((wk_any (Wk.refl _ _))))))))
        simp only [List.drop_succ_cons, List.drop_zero, anyAt_cons, anyAt_nil]
        refine pops_mv (.inl rfl) rfl (by simp only [St.eval, upd_at, Nat.reduceEqDiff, if_true, if_false] <;> rfl) ?_
        apply pops_or0 6 120 126 [121, 122, 123, 124, 125] (by simp only [upd_at, Nat.reduceEqDiff, if_true, if_false] <;> rfl)
        ·skip
         intro g120_0 J58 hJ58
         simp only [List.take_succ_cons, List.take_zero]
         simp only [anyAt_cons, anyAt_nil] at hJ58
         refine pops_do rfl rfl (by simp only [upd_at, Nat.reduceEqDiff, if_true, if_false, g120_0]) fun M hM => ?_
         simp only [pop, St.eval, constSlot, upd_at, Nat.reduceEqDiff, if_true, if_false, popIndexAddr, Tryd.underlying67, sz3, eq_self, g120_0]
         refine ⟨by decide, by decide, hM _ _ ?_⟩
         clear hM M
         refine pops_do rfl rfl (by simp only [upd_at, Nat.reduceEqDiff, if_true, if_false, g120_0]) fun M hM => ?_
         simp only [pop, St.eval, upd_at, Nat.reduceEqDiff, if_true, if_false, popLoad, loadK, isAggD, Bool.false_eq_true, Tryd.underlying3, sz3, eq_self, g120_0]
         refine hM _ _ ?_
         clear hM M
         refine pops_do rfl rfl (by simp only [upd_at, Nat.reduceEqDiff, if_true, if_false, g120_0]) fun M hM => ?_
         simp only [pop, St.eval, constSlot, upd_at, Nat.reduceEqDiff, if_true, if_false, popIndexAddr, Tryd.underlying67, sz3, eq_self, g120_0]
         refine ⟨by decide, by decide, hM _ _ ?_⟩
         clear hM M
         refine pops_do rfl rfl (by simp only [upd_at, Nat.reduceEqDiff, if_true, if_false, g120_0]) fun M hM => ?_
         simp only [pop, St.eval, upd_at, Nat.reduceEqDiff, if_true, if_false, popLoad, loadK, isAggD, Bool.false_eq_true, Tryd.underlying3, sz3, eq_self, g120_0]
         refine hM _ _ ?_
         clear hM M
         refine pops_do rfl rfl (by simp only [upd_at, Nat.reduceEqDiff, if_true, if_false, g120_0]) fun M hM => ?_
         simp only [pop, St.eval, upd_at, Nat.reduceEqDiff, if_true, if_false, popBin, binK, intK, eq_self, true_and, g120_0]
         refine hM _ _ ?_
         clear hM M
         refine pops_to rfl fun M hM => ?_
         simp only [pop, St.eval, constSlot, upd_at, Nat.reduceEqDiff, if_true, if_false, true_implies, false_implies, Bool.false_eq_true, true_and, g120_0]
         refine hM _ _ ?_
         clear hM M
         exact pops_done (hJ58 _ (wk_same (wk_any ((wk_any ((wk_any ((wk_any ((wk_any (Wk.refl _ _))))))))))))
        ·skip
         intro g120_0 J58 hJ58
         simp only [List.take_succ_cons, List.take_zero]
         simp only [anyAt_cons, anyAt_nil] at hJ58
         refine pops_off (b := true) rfl rfl (by simp only [upd_at, Nat.reduceEqDiff, if_true, if_false, g120_0]) (by decide) ?_
         refine pops_off (b := true) rfl rfl (by simp only [upd_at, Nat.reduceEqDiff, if_true, if_false, g120_0]) (by decide) ?_
         refine pops_off (b := true) rfl rfl (by simp only [upd_at, Nat.reduceEqDiff, if_true, if_false, g120_0]) (by decide) ?_
         refine pops_off (b := true) rfl rfl (by simp only [upd_at, Nat.reduceEqDiff, if_true, if_false, g120_0]) (by decide) ?_
         refine pops_off (b := true) rfl rfl (by simp only [upd_at, Nat.reduceEqDiff, if_true, if_false, g120_0]) (by decide) ?_
         refine pops_to rfl fun M hM => ?_
         simp only [pop, St.eval, constSlot, upd_at, Nat.reduceEqDiff, if_true, if_false, true_implies, false_implies, Bool.true_eq_false, and_true, g120_0]
         refine hM _ _ ?_
         clear hM M
         exact pops_done (hJ58 _ (wk_same (wk_any ((wk_any ((wk_any ((wk_any ((wk_any (Wk.refl _ _))))))))))))
        simp only [List.drop_succ_cons, List.drop_zero, anyAt_cons, anyAt_nil]
        refine pops_mv (.inl rfl) rfl (by simp only [St.eval, upd_at, Nat.reduceEqDiff, if_true, if_false] <;> rfl) ?_
        apply pops_or0 9 127 136 [128, 129, 130, 131, 132, 133, 134, 135] (by simp only [upd_at, Nat.reduceEqDiff, if_true, if_false] <;> rfl)
        ·skip
         intro g127_0 J59 hJ59
         simp only [List.take_succ_cons, List.take_zero]
         simp only [anyAt_cons, anyAt_nil] at hJ59
         refine pops_do rfl rfl (by simp only [upd_at, Nat.reduceEqDiff, if_true, if_false, g127_0]) fun M hM => ?_
         simp only [pop, St.eval, constSlot, upd_at, Nat.reduceEqDiff, if_true, if_false, popIndexAddr, Tryd.underlying67, sz3, eq_self, g127_0]
         refine ⟨by decide, by decide, hM _ _ ?_⟩
         clear hM M
         refine pops_do rfl rfl (by simp only [upd_at, Nat.reduceEqDiff, if_true, if_false, g127_0]) fun M hM => ?_
         simp only [pop, St.eval, upd_at, Nat.reduceEqDiff, if_true, if_false, popLoad, loadK, isAggD, Bool.false_eq_true, Tryd.underlying3, sz3, eq_self, g127_0]
         refine hM _ _ ?_
         clear hM M
         refine pops_do rfl rfl (by simp only [upd_at, Nat.reduceEqDiff, if_true, if_false, g127_0]) fun M hM => ?_
         simp only [pop, St.eval, constSlot, upd_at, Nat.reduceEqDiff, if_true, if_false, popBin, binK, intK, eq_self, true_and, g127_0]
         refine hM _ _ ?_
         clear hM M
         refine pops_mvg (.inl rfl) rfl rfl (by simp only [upd_at, Nat.reduceEqDiff, if_true, if_false, g127_0]) (by simp only [St.eval, upd_at, Nat.reduceEqDiff, if_true, if_false, g127_0] <;> rfl) ?_
         apply pops_and0 4 131 135 [132, 133, 134] (by simp only [upd_at, Nat.reduceEqDiff, if_true, if_false, g127_0] <;> rfl)
         ·skip
          intro g131_1 J60 hJ60
          simp only [List.take_succ_cons, List.take_zero]
          simp only [anyAt_cons, anyAt_nil] at hJ60
          refine pops_do rfl rfl (by simp only [upd_at, Nat.reduceEqDiff, if_true, if_false, g127_0, g131_1]) fun M hM => ?_
          simp only [pop, St.eval, constSlot, upd_at, Nat.reduceEqDiff, if_true, if_false, popIndexAddr, Tryd.underlying67, sz3, eq_self, g127_0, g131_1]
          refine ⟨by decide, by decide, hM _ _ ?_⟩
          clear hM M
          refine pops_do rfl rfl (by simp only [upd_at, Nat.reduceEqDiff, if_true, if_false, g127_0, g131_1]) fun M hM => ?_
          simp only [pop, St.eval, upd_at, Nat.reduceEqDiff, if_true, if_false, popLoad, loadK, isAggD, Bool.false_eq_true, Tryd.underlying3, sz3, eq_self, g127_0, g131_1]
          refine hM _ _ ?_
          clear hM M
          refine pops_do rfl rfl (by simp only [upd_at, Nat.reduceEqDiff, if_true, if_false, g127_0, g131_1]) fun M hM => ?_
          simp only [pop, St.eval, constSlot, upd_at, Nat.reduceEqDiff, if_true, if_false, popBin, binK, intK, eq_self, true_and, g127_0, g131_1]
          refine hM _ _ ?_
          clear hM M
          refine pops_do rfl rfl (by simp only [upd_at, Nat.reduceEqDiff, if_true, if_false, g127_0, g131_1]) fun M hM => ?_
          simp only [pop, St.eval, constSlot, upd_at, Nat.reduceEqDiff, if_true, if_false, true_implies, false_implies, Bool.true_eq_false, and_true, g127_0, g131_1]
          refine hM _ _ ?_
          clear hM M
          exact pops_done (hJ60 _ (wk_same (wk_any ((wk_any ((wk_any (Wk.refl _ _))))))))
         ·skip
          intro g131_1 J60 hJ60
          simp only [List.take_succ_cons, List.take_zero]
          simp only [anyAt_cons, anyAt_nil] at hJ60
          refine pops_off (b := false) rfl rfl (by simp only [upd_at, Nat.reduceEqDiff, if_true, if_false, g127_0, g131_1]) (by decide) ?_
          refine pops_off (b := false) rfl rfl (by simp only [upd_at, Nat.reduceEqDiff, if_true, if_false, g127_0, g131_1]) (by decide) ?_
          refine pops_off (b := false) rfl rfl (by simp only [upd_at, Nat.reduceEqDiff, if_true, if_false, g127_0, g131_1]) (by decide) ?_
          refine pops_do rfl rfl (by simp only [upd_at, Nat.reduceEqDiff, if_true, if_false, g127_0, g131_1]) fun M hM => ?_
          simp only [pop, St.eval, constSlot, upd_at, Nat.reduceEqDiff, if_true, if_false, true_implies, false_implies, Bool.false_eq_true, true_and, g127_0, g131_1]
          refine hM _ _ ?_
          clear hM M
          exact pops_done (hJ60 _ (wk_same (wk_any ((wk_any ((wk_any (Wk.refl _ _))))))))
         simp only [List.drop_succ_cons, List.drop_zero, anyAt_cons, anyAt_nil]
         refine pops_to rfl fun M hM => ?_
         simp only [pop, St.eval, constSlot, upd_at, Nat.reduceEqDiff, if_true, if_false, true_implies, false_implies, Bool.false_eq_true, true_and, g127_0]
         refine hM _ _ ?_
         clear hM M
         exact pops_done (hJ59 _ (wk_same (wk_any ((wk_any ((wk_any ((wk_any ((wk_any ((wk_any ((wk_any ((wk_any (Wk.refl _ _))))))))))))))))))
        ·skip
         intro g127_0 J59 hJ59
         simp only [List.take_succ_cons, List.take_zero]
         simp only [anyAt_cons, anyAt_nil] at hJ59
         refine pops_off (b := true) rfl rfl (by simp only [upd_at, Nat.reduceEqDiff, if_true, if_false, g127_0]) (by decide) ?_
         refine pops_off (b := true) rfl rfl (by simp only [upd_at, Nat.reduceEqDiff, if_true, if_false, g127_0]) (by decide) ?_
         refine pops_off (b := true) rfl rfl (by simp only [upd_at, Nat.reduceEqDiff, if_true, if_false, g127_0]) (by decide) ?_
         refine pops_off (b := true) rfl rfl (by simp only [upd_at, Nat.reduceEqDiff, if_true, if_false, g127_0]) (by decide) ?_
         refine pops_off0 rfl rfl (by simp only [upd_at, Nat.reduceEqDiff, if_true, if_false, g127_0]) ?_
         refine pops_off0 rfl rfl (by simp only [upd_at, Nat.reduceEqDiff, if_true, if_false, g127_0]) ?_
         refine pops_off0 rfl rfl (by simp only [upd_at, Nat.reduceEqDiff, if_true, if_false, g127_0]) ?_
         refine pops_off (b := true) rfl rfl (by simp only [upd_at, Nat.reduceEqDiff, if_true, if_false, g127_0]) (by decide) ?_
         refine pops_to rfl fun M hM => ?_
         simp only [pop, St.eval, constSlot, upd_at, Nat.reduceEqDiff, if_true, if_false, true_implies, false_implies, Bool.true_eq_false, and_true, g127_0]
         refine hM _ _ ?_
         clear hM M
         exact pops_done (hJ59 _ (wk_same (wk_any ((wk_any ((wk_any ((wk_any ((wk_any ((wk_any ((wk_any ((wk_any (Wk.refl _ _))))))))))))))))))
        simp only [List.drop_succ_cons, List.drop_zero, anyAt_cons, anyAt_nil]
        refine pops_done (hR56 _ ?_)
        clear hR56 R56
        try simp only [thenK]
        refine hN55 _ ?_
        clear hN55 N55
        refine pwp_cond (by simp only [St.eval, upd_at, Nat.reduceEqDiff, if_true, if_false] <;> rfl) (fun c136 => ?_) (fun c136 => ?_)
        ·skip
         have hb : rngBad x = true := c136
         rw [if_pos hb] at hrs
         have hcg : chkG g = 7 := by rw [chkG_eq, if_pos (by rw [hrs]; decide), hrs]
         rw [hcg, if_pos (by decide)] at hst
         refine pwp_then fun N61 hN61 => ?_
         refine pwp_reg fun R62 hR62 => ?_
         refine pops_mv (.inr rfl) rfl (by simp only [St.eval, constSlot] <;> rfl) ?_
         refine pops_done (hR62 _ ?_)
         clear hR62 R62
         try simp only [thenK]
         refine hN61 _ ?_
         clear hN61 N61
         refine pwp_ret ?_
         simp only [thenK, blockK, bodyK]
         clear hN54 N54 hN49 N49 hN43 N43 hN9 N9 hN3 N3
         refine ⟨_, rfl, endFun sv53 ?_⟩
         try simp only [upd_at, Nat.reduceEqDiff, if_true, if_false]
         all_goals
          rw [hst]
        ·skip
         have hb : rngBad x = false := c136
         rw [if_neg (by rw [hb]; decide)] at hrs
         refine pwp_skip ?_
         try simp only [thenK]
         refine hN54 _ ?_
         clear hN54 N54
         refine pwp_then fun N63 hN63 => ?_
         refine pwp_dreg 15 mixed (by decide +kernel) fun R64 hR64 => ?_
         simp only [List.take_succ_cons, List.take_zero, List.drop_succ_cons, List.drop_zero]
         apply lex_to
         · rfl
         ·intro h' s' M hM
          simp only [pop, St.eval, upd_at, Nat.reduceEqDiff, if_true, if_false, eq_self]
          exact hM _ (.refl _)
         apply lex_to
         · rfl
         ·intro h' s' M hM
          simp only [pop, St.eval, constSlot, upd_at, Nat.reduceEqDiff, if_true, if_false, popBin, binK, intK, eq_self, true_and]
          exact hM _ (.refl _)
         apply lex_to
         · rfl
         ·intro h' s' M hM
          simp only [pop, St.eval, upd_at, Nat.reduceEqDiff, if_true, if_false, eq_self]
          exact hM _ (.refl _)
         refine lex_split 139 (by simp only [upd_at, Nat.reduceEqDiff, if_true, if_false] <;> rfl) (fun g139_0 => ?_) (fun g139_0 => ?_)
         ·skip
          have hq0 : 0 < q := by have := of_decide_eq_true g139_0; omega
          have hw143 := wrapp (i := q) (by omega) hq0
          have hgy := rng_prev hqi hq0
          apply lex_do
          · rfl
          · rfl
          · simp only [upd_at, Nat.reduceEqDiff, if_true, if_false, g139_0]
          ·intro h' s' M hM
           simp only [pop, St.eval, upd_at, Nat.reduceEqDiff, if_false, popFieldAddr, fieldOf, List.drop_succ_cons, List.drop_zero, List.getElem?_toArray, List.getElem?_cons_zero, List.getElem?_cons_succ, Tryd.underlying64, sz61, e1_4, g139_0]
           exact ⟨⟨_, rfl⟩, hM _ (.refl _)⟩
          apply lex_do
          · rfl
          · rfl
          · simp only [upd_at, Nat.reduceEqDiff, if_true, if_false, g139_0]
          ·intro h' s' M hM
           simp only [pop, St.eval, upd_at, Nat.reduceEqDiff, if_true, if_false, popLoad, loadK, isAggD, Bool.false_eq_true, Tryd.underlying61, sz61, eq_self, g139_0]
           exact hM _ (.refl _)
          apply lex_do
          · rfl
          · rfl
          · simp only [upd_at, Nat.reduceEqDiff, if_true, if_false, g139_0]
          ·intro h' s' M hM
           simp only [pop, St.eval, upd_at, Nat.reduceEqDiff, if_true, if_false, eq_self, g139_0]
           exact hM _ (.refl _)
          apply lex_do
          · rfl
          · rfl
          · simp only [upd_at, Nat.reduceEqDiff, if_true, if_false, g139_0]
          ·intro h' s' M hM
           simp only [pop, St.eval, constSlot, upd_at, Nat.reduceEqDiff, if_true, if_false, popBin, binK, intK, eq_self, true_and, g139_0, hw143]
           exact hM _ (.refl _)
          apply lex_do
          · rfl
          · rfl
          · simp only [upd_at, Nat.reduceEqDiff, if_true, if_false, g139_0]
          ·intro h' s' M hM
           simp only [pop, St.eval, upd_at, Nat.reduceEqDiff, if_true, if_false, popIndexAddr, Tryd.underlying61, sz67, eq_self, true_and, g139_0, hgy, Int.toNat_natCast]
           refine ⟨Int.natCast_nonneg _, ?_⟩
           exact hM _ (.refl _)
          apply lex_do
          · rfl
          · rfl
          · simp only [upd_at, Nat.reduceEqDiff, if_true, if_false, g139_0]
          ·intro h' s' M hM
           simp only [pop, St.eval, constSlot, upd_at, Nat.reduceEqDiff, if_true, if_false, popIndexAddr, Tryd.underlying67, sz3, eq_self, g139_0]
           refine ⟨by decide, by decide, ?_⟩
           exact hM _ (.refl _)
          apply lex_do
          · rfl
          · rfl
          · simp only [upd_at, Nat.reduceEqDiff, if_true, if_false, g139_0]
          ·intro h' s' M hM
           simp only [pop, St.eval, upd_at, Nat.reduceEqDiff, if_true, if_false, popLoad, loadK, isAggD, Bool.false_eq_true, Tryd.underlying3, sz3, eq_self, g139_0]
           exact hM _ (.refl _)
          apply lex_do
          · rfl
          · rfl
          · simp only [upd_at, Nat.reduceEqDiff, if_true, if_false, g139_0]
          ·intro h' s' M hM
           simp only [pop, St.eval, constSlot, upd_at, Nat.reduceEqDiff, if_true, if_false, popBin, binK, intK, eq_self, true_and, g139_0]
           exact hM _ (.refl _)
          apply lex_do
          · rfl
          · rfl
          · simp only [upd_at, Nat.reduceEqDiff, if_true, if_false, g139_0]
          ·intro h' s' M hM
           simp only [pop, St.eval, constSlot, upd_at, Nat.reduceEqDiff, if_true, if_false, popIndexAddr, Tryd.underlying67, sz3, eq_self, g139_0]
           refine ⟨by decide, by decide, ?_⟩
           exact hM _ (.refl _)
          apply lex_do
          · rfl
          · rfl
          · simp only [upd_at, Nat.reduceEqDiff, if_true, if_false, g139_0]
          ·intro h' s' M hM
           simp only [pop, St.eval, upd_at, Nat.reduceEqDiff, if_true, if_false, popLoad, loadK, isAggD, Bool.false_eq_true, Tryd.underlying3, sz3, eq_self, g139_0]
           exact hM _ (.refl _)
          apply lex_do
          · rfl
          · rfl
          · simp only [upd_at, Nat.reduceEqDiff, if_true, if_false, g139_0]
          ·intro h' s' M hM
           simp only [pop, St.eval, upd_at, Nat.reduceEqDiff, if_true, if_false, popBin, binK, intK, eq_self, true_and, g139_0]
           exact hM _ (.refl _)
          apply lex_to
          · rfl
          ·intro h' s' M hM
           simp only [pop, St.eval, constSlot, upd_at, Nat.reduceEqDiff, if_true, if_false, true_implies, false_implies, Bool.true_eq_false, and_true, g139_0]
           exact hM _ (.refl _)
          refine lex_done fun hq sq => ?_
          replace sq := Same.trans sv53 sq
          refine pops_done (hR64 _ ?_)
          clear hR64 R64
          try simp only [thenK]
          refine hN63 _ ?_
          clear hN63 N63
          refine pwp_cond (by simp only [St.eval, upd_at, Nat.reduceEqDiff, if_true, if_false, g139_0] <;> rfl) (fun c151 => ?_) (fun c151 => ?_)
          ·skip
           have hor : (decide (0 < q) && decide (x.1 ≤ (g.ranges.getD (q - 1) (0, 0)).2 + 1)) = true := by
             have h2 := of_decide_eq_true c151
             have hgd := hx1_2 _ (getD_mem (0, 0) hqi hq0)
             simp only [rngBad, Bool.or_eq_false_iff, decide_eq_false_iff_not] at hgd
             rw [wrap_i64 (by omega) (by omega)] at h2
             simp only [Bool.and_eq_true, decide_eq_true_eq]
             exact ⟨hq0, h2⟩
           rw [if_pos hor] at hrs
           have hcg : chkG g = 10 := by rw [chkG_eq, if_pos (by rw [hrs]; decide), hrs]
           rw [hcg, if_pos (by decide)] at hst
           refine pwp_then fun N65 hN65 => ?_
           refine pwp_reg fun R66 hR66 => ?_
           refine pops_mv (.inr rfl) rfl (by simp only [St.eval, constSlot] <;> rfl) ?_
           refine pops_done (hR66 _ ?_)
           clear hR66 R66
           try simp only [thenK]
           refine hN65 _ ?_
           clear hN65 N65
           refine pwp_ret ?_
           simp only [thenK, blockK, bodyK]
           clear hN49 N49 hN43 N43 hN9 N9 hN3 N3
           refine ⟨_, rfl, endFun sq ?_⟩
           try simp only [upd_at, Nat.reduceEqDiff, if_true, if_false, g139_0]
           all_goals
            rw [hst]
          ·skip
           have h2 := of_decide_eq_false c151
           have hgd := hx1_2 _ (getD_mem (0, 0) hqi hq0)
           simp only [rngBad, Bool.or_eq_false_iff, decide_eq_false_iff_not] at hgd
           rw [wrap_i64 (by omega) (by omega)] at h2
           refine pwp_skip ?_
           try simp only [blockK, thenK]
           try simp only [thenK, scopeK]
           refine hN49 _ ?_
           clear hN49 N49
           refine pwp_reg fun R67 hR67 => ?_
           refine pops_to rfl fun M hM => ?_
           simp only [pop, St.eval, constSlot, upd_at, Nat.reduceEqDiff, if_false, popBin, binK, intK, eq_self, true_and, e1_107, g139_0]
           refine hM _ _ ?_
           clear hM M
           refine pops_mv (.inl rfl) rfl (by simp only [St.eval, upd_at, Nat.reduceEqDiff, if_true, if_false, g139_0] <;> rfl) ?_
           refine pops_done (hR67 _ ?_)
           clear hR67 R67
           try simp only [thenK]
           exact ⟨_, by omega, _, .refl _ _, q + 1, rfl, by omega, by
             first
             | (rw [if_neg (by simp only [Bool.and_eq_true, decide_eq_true_eq]; omega)] at hrs; exact hrs.symm)
             | (rw [if_neg (by simp only [Bool.and_eq_true, decide_eq_true_eq]; exact fun h9 => hq0 h9.1)] at hrs; exact hrs.symm), take_nextG hx1_2 hx hb, sq, by simp only [upd_at, Nat.reduceEqDiff, if_false, e1_0, g139_0], by simp only [upd_at, Nat.reduceEqDiff, if_false, e1_11, g139_0], by simp only [upd_at, Nat.reduceEqDiff, if_false, e1_12, g139_0], by simp only [upd_at, Nat.reduceEqDiff, if_false, e1_13, g139_0], by simp only [upd_at, Nat.reduceEqDiff, if_false, e1_4, g139_0], by simp only [upd_at, Nat.reduceEqDiff, if_false, e1_105, g139_0], by simp only [upd_at, Nat.reduceEqDiff, if_false, e1_106, g139_0], by simp only [upd_at, Nat.reduceEqDiff, if_true, if_false, e1_107]; rw [wrap_succ (by omega)]⟩
         ·skip
          have hq0 : ¬ 0 < q := by have := of_decide_eq_false g139_0; omega
          refine lex_off (b := false) rfl rfl (by simp only [upd_at, Nat.reduceEqDiff, if_true, if_false, g139_0]) (by decide) ?_
          refine lex_off (b := false) rfl rfl (by simp only [upd_at, Nat.reduceEqDiff, if_true, if_false, g139_0]) (by decide) ?_
          refine lex_off (b := false) rfl rfl (by simp only [upd_at, Nat.reduceEqDiff, if_true, if_false, g139_0]) (by decide) ?_
          refine lex_off (b := false) rfl rfl (by simp only [upd_at, Nat.reduceEqDiff, if_true, if_false, g139_0]) (by decide) ?_
          refine lex_off (b := false) rfl rfl (by simp only [upd_at, Nat.reduceEqDiff, if_true, if_false, g139_0]) (by decide) ?_
          refine lex_off (b := false) rfl rfl (by simp only [upd_at, Nat.reduceEqDiff, if_true, if_false, g139_0]) (by decide) ?_
          refine lex_off (b := false) rfl rfl (by simp only [upd_at, Nat.reduceEqDiff, if_true, if_false, g139_0]) (by decide) ?_
          refine lex_off (b := false) rfl rfl (by simp only [upd_at, Nat.reduceEqDiff, if_true, if_false, g139_0]) (by decide) ?_
          refine lex_off (b := false) rfl rfl (by simp only [upd_at, Nat.reduceEqDiff, if_true, if_false, g139_0]) (by decide) ?_
          refine lex_off (b := false) rfl rfl (by simp only [upd_at, Nat.reduceEqDiff, if_true, if_false, g139_0]) (by decide) ?_
          refine lex_off (b := false) rfl rfl (by simp only [upd_at, Nat.reduceEqDiff, if_true, if_false, g139_0]) (by decide) ?_
          apply lex_to
          · rfl
          ·intro h' s' M hM
           simp only [pop, St.eval, constSlot, upd_at, Nat.reduceEqDiff, if_true, if_false, true_implies, false_implies, Bool.false_eq_true, true_and, g139_0]
           exact hM _ (.refl _)
          refine lex_done fun hq2 sq2 => ?_
          replace sq2 := Same.trans sv53 sq2
          refine pops_done (hR64 _ ?_)
          clear hR64 R64
          try simp only [thenK]
          refine hN63 _ ?_
          clear hN63 N63
          refine pwp_cond_false (by simp only [St.eval, upd_at, Nat.reduceEqDiff, if_true, if_false, g139_0] <;> rfl) ?_
          refine pwp_skip ?_
          try simp only [blockK, thenK]
          try simp only [thenK, scopeK]
          refine hN49 _ ?_
          clear hN49 N49
          refine pwp_reg fun R68 hR68 => ?_
          refine pops_to rfl fun M hM => ?_
          simp only [pop, St.eval, constSlot, upd_at, Nat.reduceEqDiff, if_false, popBin, binK, intK, eq_self, true_and, e1_107, g139_0]
          refine hM _ _ ?_
          clear hM M
          refine pops_mv (.inl rfl) rfl (by simp only [St.eval, upd_at, Nat.reduceEqDiff, if_true, if_false, g139_0] <;> rfl) ?_
          refine pops_done (hR68 _ ?_)
          clear hR68 R68
          try simp only [thenK]
          exact ⟨_, by omega, _, .refl _ _, q + 1, rfl, by omega, by
            first
            | (rw [if_neg (by simp only [Bool.and_eq_true, decide_eq_true_eq]; omega)] at hrs; exact hrs.symm)
            | (rw [if_neg (by simp only [Bool.and_eq_true, decide_eq_true_eq]; exact fun h9 => hq0 h9.1)] at hrs; exact hrs.symm), take_nextG hx1_2 hx hb, sq2, by simp only [upd_at, Nat.reduceEqDiff, if_false, e1_0, g139_0], by simp only [upd_at, Nat.reduceEqDiff, if_false, e1_11, g139_0], by simp only [upd_at, Nat.reduceEqDiff, if_false, e1_12, g139_0], by simp only [upd_at, Nat.reduceEqDiff, if_false, e1_13, g139_0], by simp only [upd_at, Nat.reduceEqDiff, if_false, e1_4, g139_0], by simp only [upd_at, Nat.reduceEqDiff, if_false, e1_105, g139_0], by simp only [upd_at, Nat.reduceEqDiff, if_false, e1_106, g139_0], by simp only [upd_at, Nat.reduceEqDiff, if_true, if_false, e1_107]; rw [wrap_succ (by omega)]⟩
       ·skip
        obtain rfl : q = g.ranges.length := by have := of_decide_eq_false c108; omega
        rw [List.drop_length, rngE] at hx1_1
        have hcg : chkG g = chkW g.ways := by rw [chkG_eq, if_neg (by rw [← hx1_1]; decide)]
        rw [hcg] at hst
        refine pwp_exit ?_
        try simp only [thenK, blockK, if_true, Nat.reduceEqDiff, if_false]
        clear hN48 N48
        try simp only [blockK, scopeK, if_true, Nat.reduceEqDiff, if_false, thenK]
        try simp only [thenK, scopeK]
        refine hN43 _ ?_
        clear hN43 N43
        refine pwp_then fun N69 hN69 => ?_
        refine pwp_reg fun R70 hR70 => ?_
        refine pops_to rfl fun M hM => ?_
        simp only [pop, St.eval, upd_at, Nat.reduceEqDiff, if_false, popFieldAddr, fieldOf, List.drop_succ_cons, List.drop_zero, List.getElem?_toArray, List.getElem?_cons_zero, List.getElem?_cons_succ, Tryd.underlying64, sz62, e1_4]
        refine ⟨⟨_, rfl⟩, hM _ _ ?_⟩
        clear hM M
        refine pops_to rfl fun M hM => ?_
        simp only [pop, St.eval, upd_at, Nat.reduceEqDiff, if_true, if_false, popLoad, loadK, isAggD, Bool.false_eq_true, Tryd.underlying62, sz62, eq_self]
        refine hM _ _ ?_
        clear hM M
        refine pops_to rfl fun M hM => ?_
        simp only [pop, St.eval, upd_at, Nat.reduceEqDiff, if_true, if_false, popCall, List.map_cons, List.map_nil, popBuiltin, popLen, lenOfSlot, Tryd.underlying62, eq_self, encW_len]
        refine hM _ _ ?_
        clear hM M
        refine pops_mv (.inl rfl) rfl (by simp only [St.eval, constSlot] <;> rfl) ?_
        refine pops_done (hR70 _ ?_)
        clear hR70 R70
        try simp only [thenK]
        refine hN69 _ ?_
        clear hN69 N69
        refine pwp_block ?_
        refine pwp_loop (fun k σ => ∃ (j : Nat), (k = g.ways.length - j) ∧ (j ≤ g.ways.length) ∧ (chkW (g.ways.drop j) = chkW g.ways) ∧ (Same h σ.hp) ∧ (σ.env 0 = .sv (.one (.ro false 5 (encL l)))) ∧ (σ.env 11 = .sv (.one (.ro false 5 (encL l)))) ∧ (σ.env 12 = .sv (.one (pint (l.length : Nat)))) ∧ (σ.env 13 = .sv (.one (pint (i : Nat)))) ∧ (σ.env 4 = .sv (.one (.rop [pint g.kind, pstr g.text, pbool g.neg, .ro false 2 (rngPV g.ranges), .ro false 1 (encW g.ways)]))) ∧ (σ.env 154 = .sv (.one (.ro false 1 (encW g.ways)))) ∧ (σ.env 155 = .sv (.one (pint (g.ways.length : Nat)))) ∧ (σ.env 156 = .sv (.one (pint (j : Nat))))) _ ⟨_, .refl _ _, 0, rfl, ?_⟩ ?_
        · exact ⟨Nat.zero_le _, rfl, sl1, by simp only [upd_at, Nat.reduceEqDiff, if_false, e1_0], by simp only [upd_at, Nat.reduceEqDiff, if_false, e1_11], by simp only [upd_at, Nat.reduceEqDiff, if_false, e1_12], by simp only [upd_at, Nat.reduceEqDiff, if_false, e1_13], by simp only [upd_at, Nat.reduceEqDiff, if_false, e1_4], by simp only [upd_at, Nat.reduceEqDiff, if_true, if_false], by first | rfl | (simp only [upd_at, Nat.reduceEqDiff, if_true, if_false]; rfl), by first | rfl | (simp only [upd_at, Nat.reduceEqDiff, if_true, if_false]; rfl)⟩
        ·rintro k ⟨e, hp2⟩ ⟨j, hk2, hx2_0, hx2_1, sl2, e2_0, e2_11, e2_12, e2_13, e2_4, e2_154, e2_155, e2_156⟩
         simp only at sl2 e2_0 e2_11 e2_12 e2_13 e2_4 e2_154 e2_155 e2_156
         refine pwp_then fun N71 hN71 => ?_
         refine pwp_reg fun R72 hR72 => ?_
         refine pops_to rfl fun M hM => ?_
         simp only [pop, St.eval, popBin, binK, intK, eq_self, true_and, e2_155, e2_156]
         refine hM _ _ ?_
         clear hM M
         refine pops_done (hR72 _ ?_)
         clear hR72 R72
         try simp only [thenK]
         refine hN71 _ ?_
         clear hN71 N71
         refine pwp_then fun N73 hN73 => ?_
         refine pwp_cond (by simp only [St.eval, upd_at, if_true] <;> rfl) (fun c157 => ?_) (fun c157 => ?_)
         ·skip
          have hj : j < g.ways.length := by have := of_decide_eq_true c157; omega
          obtain ⟨v, hv⟩ : ∃ v, g.ways[j]? = some v := ⟨_, List.getElem?_eq_getElem hj⟩
          have hgetw := encW_at hv
          have hlt := way_lt hg hv
          have hws := chkW_step hv
          rw [hx2_1] at hws
          refine pwp_skip ?_
          try simp only [thenK]
          refine hN73 _ ?_
          clear hN73 N73
          refine pwp_then fun N74 hN74 => ?_
          refine pwp_block ?_
          refine pwp_then fun N75 hN75 => ?_
          refine pwp_reg fun R76 hR76 => ?_
          refine pops_to rfl fun M hM => ?_
          simp only [pop, St.eval, upd_at, Nat.reduceEqDiff, if_false, popIndexAddr, Tryd.underlying62, sz22, eq_self, true_and, e2_154, e2_156, hgetw, Int.toNat_natCast]
          refine ⟨Int.natCast_nonneg _, hM _ _ ?_⟩
          clear hM M
          refine pops_to rfl fun M hM => ?_
          simp only [pop, St.eval, upd_at, Nat.reduceEqDiff, if_true, if_false, popLoad, loadK, isAggD, Bool.false_eq_true, Tryd.underlying22, sz22, eq_self]
          refine hM _ _ ?_
          clear hM M
          refine pops_mv (.inr rfl) rfl (by simp only [St.eval, upd_at, Nat.reduceEqDiff, if_true, if_false] <;> rfl) ?_
          refine pops_done (hR76 _ ?_)
          clear hR76 R76
          try simp only [thenK]
          refine hN75 _ ?_
          clear hN75 N75
          refine pwp_then fun N77 hN77 => ?_
          refine pwp_reg fun R78 hR78 => ?_
          refine pops_mv (.inl rfl) rfl (by simp only [St.eval, upd_at, Nat.reduceEqDiff, if_true, if_false] <;> rfl) ?_
          refine pops_to rfl fun M hM => ?_
          simp only [pop, St.eval, constSlot, upd_at, Nat.reduceEqDiff, if_true, if_false, popCall, List.map_nil, svs, List.mapM_cons, List.mapM_nil, Option.bind_eq_bind, Option.bind_some, Option.pure_def, List.append_nil]
          refine PFun.use (ih v hlt (by omega)) fun h5 s5 => hM _ _ ?_
          replace s5 := Same.trans sl2 s5
          clear hM M
          refine pops_mv (.inr rfl) rfl (by simp only [St.eval, upd_at, Nat.reduceEqDiff, if_true, if_false] <;> rfl) ?_
          refine pops_done (hR78 _ ?_)
          clear hR78 R78
          try simp only [thenK]
          refine hN77 _ ?_
          clear hN77 N77
          refine pwp_then fun N79 hN79 => ?_
          refine pwp_reg fun R80 hR80 => ?_
          refine pops_mv (.inl rfl) rfl (by simp only [St.eval, upd_at, Nat.reduceEqDiff, if_true, if_false] <;> rfl) ?_
          refine pops_to rfl fun M hM => ?_
          simp only [pop, St.eval, constSlot, upd_at, Nat.reduceEqDiff, if_true, if_false, popBin, binK, intK, eq_self, true_and]
          refine hM _ _ ?_
          clear hM M
          refine pops_done (hR80 _ ?_)
          clear hR80 R80
          try simp only [thenK]
          refine hN79 _ ?_
          clear hN79 N79
          refine pwp_cond (by simp only [St.eval, upd_at, Nat.reduceEqDiff, if_true, if_false] <;> rfl) (fun c163 => ?_) (fun c163 => ?_)
          ·skip
           have hv0 : chkL false v ≠ 0 := by simpa using c163
           rw [if_pos hv0] at hws
           rw [hws, if_pos hv0] at hst
           refine pwp_then fun N81 hN81 => ?_
           refine pwp_reg fun R82 hR82 => ?_
           refine pops_mv (.inl rfl) rfl (by simp only [St.eval, upd_at, Nat.reduceEqDiff, if_true, if_false] <;> rfl) ?_
           refine pops_mv (.inr rfl) rfl (by simp only [St.eval, upd_at, Nat.reduceEqDiff, if_true, if_false] <;> rfl) ?_
           refine pops_done (hR82 _ ?_)
           clear hR82 R82
           try simp only [thenK]
           refine hN81 _ ?_
           clear hN81 N81
           refine pwp_ret ?_
           simp only [thenK, blockK, bodyK]
           clear hN74 N74 hN9 N9 hN3 N3
           refine ⟨_, rfl, endFun s5 ?_⟩
           try simp only [upd_at, Nat.reduceEqDiff, if_true, if_false]
           all_goals
            rw [hst]
          ·skip
           have hv0 : ¬ chkL false v ≠ 0 := by simpa using c163
           rw [if_neg hv0] at hws
           refine pwp_skip ?_
           try simp only [blockK, thenK]
           try simp only [thenK, scopeK]
           refine hN74 _ ?_
           clear hN74 N74
           refine pwp_reg fun R83 hR83 => ?_
           refine pops_to rfl fun M hM => ?_
           simp only [pop, St.eval, constSlot, upd_at, Nat.reduceEqDiff, if_false, popBin, binK, intK, eq_self, true_and, e2_156]
           refine hM _ _ ?_
           clear hM M
           refine pops_mv (.inl rfl) rfl (by simp only [St.eval, upd_at, Nat.reduceEqDiff, if_true, if_false] <;> rfl) ?_
           refine pops_done (hR83 _ ?_)
           clear hR83 R83
           try simp only [thenK]
           exact ⟨_, by omega, _, .refl _ _, j + 1, rfl, by omega, hws.symm, s5, by simp only [upd_at, Nat.reduceEqDiff, if_false, e2_0], by simp only [upd_at, Nat.reduceEqDiff, if_false, e2_11], by simp only [upd_at, Nat.reduceEqDiff, if_false, e2_12], by simp only [upd_at, Nat.reduceEqDiff, if_false, e2_13], by simp only [upd_at, Nat.reduceEqDiff, if_false, e2_4], by simp only [upd_at, Nat.reduceEqDiff, if_false, e2_154], by simp only [upd_at, Nat.reduceEqDiff, if_false, e2_155], by simp only [upd_at, Nat.reduceEqDiff, if_true, if_false, e2_156]; rw [wrap_succ (by omega)]⟩
         ·skip
          obtain rfl : j = g.ways.length := by have := of_decide_eq_false c157; omega
          rw [List.drop_length, chkW] at hx2_1
          rw [← hx2_1, if_neg (by decide)] at hst
          refine pwp_exit ?_
          try simp only [thenK, blockK, if_true, Nat.reduceEqDiff, if_false]
          clear hN73 N73
          try simp only [blockK, scopeK, if_true, Nat.reduceEqDiff, if_false, thenK]
          try simp only [blockK, thenK, scopeK]
          try simp only [thenK, scopeK]
          refine hN9 _ ?_
          clear hN9 N9
          refine pwp_reg fun R84 hR84 => ?_
          refine pops_to rfl fun M hM => ?_
          simp only [pop, St.eval, constSlot, upd_at, Nat.reduceEqDiff, if_false, popBin, binK, intK, eq_self, true_and, e2_13]
          refine hM _ _ ?_
          clear hM M
          refine pops_mv (.inl rfl) rfl (by simp only [St.eval, upd_at, Nat.reduceEqDiff, if_true, if_false] <;> rfl) ?_
          refine pops_done (hR84 _ ?_)
          clear hR84 R84
          try simp only [thenK]
          exact ⟨_, by omega, _, .refl _ _, i + 1, rfl, by omega, hst.symm, sl2, by simp only [upd_at, Nat.reduceEqDiff, if_false, e2_0], by simp only [upd_at, Nat.reduceEqDiff, if_false, e2_11], by simp only [upd_at, Nat.reduceEqDiff, if_false, e2_12], by simp only [upd_at, Nat.reduceEqDiff, if_true, if_false, e2_13]; rw [wrap_succ (by omega)]⟩
  ·skip
   obtain rfl : i = l.length := by have := of_decide_eq_false c14; omega
   rw [List.drop_length, chkL] at hx0_1
   have hst := hx0_1.symm
   refine pwp_exit ?_
   try simp only [thenK, blockK, if_true]
   clear hN8 N8
   try simp only [blockK, scopeK, if_true, Nat.reduceEqDiff, if_false, thenK]
   try simp only [thenK, scopeK]
   refine hN3 _ ?_
   clear hN3 N3
   refine pwp_then fun N85 hN85 => ?_
   refine pwp_reg fun R86 hR86 => ?_
   refine pops_mv (.inr rfl) rfl (by simp only [St.eval, constSlot] <;> rfl) ?_
   refine pops_done (hR86 _ ?_)
   clear hR86 R86
   try simp only [thenK]
   refine hN85 _ ?_
   clear hN85 N85
   refine pwp_ret ?_
   simp only [bodyK]
   refine ⟨_, rfl, endFun sl0 ?_⟩
   try simp only [upd_at, Nat.reduceEqDiff, if_true, if_false]
   all_goals
    rw [hst]
end Go.Pw
