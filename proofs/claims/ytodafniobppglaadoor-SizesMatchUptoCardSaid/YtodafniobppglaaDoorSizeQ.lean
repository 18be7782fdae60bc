import Derived.Test.YtodafniobppglaaDoorSizeA
namespace Go.Pw
open Go Go.RowKit Go.Proofs
set_option maxRecDepth 100000
set_option linter.unusedSimpArgs false
set_option linter.unusedVariables false

theorem shl40 (i : Nat) (hi : i < 4) : IntKind.i64.wrap (10 * (i : Int)) = 10 * (i : Int) ∧ 0 ≤ IntKind.i64.wrap (40 - 10 * (i : Int)) ∧ IntKind.i64.wrap (1 * 2 ^ (min (IntKind.i64.wrap (40 - 10 * (i : Int))).toNat IntKind.i64.bits)) = (((UL.getD i (1, 0)).1 : Nat) : Int) ∧ [84, 71, 77, 107][i]? = some ((UL.getD i (1, 0)).2 : UInt8) ∧ UL.drop i = UL.getD i (1, 0) :: UL.drop (i + 1) ∧ 0 < (UL.getD i (1, 0)).1 ∧ (([84, 71, 77, 107] : List UInt8).take (i + 1)).drop i = [(UL.getD i (1, 0)).2] := by
  match i, hi with
  | 0, _ => decide +kernel
  | 1, _ => decide +kernel
  | 2, _ => decide +kernel
  | 3, _ => decide +kernel
theorem shlR (i : Nat) (hi : i < 4) : IntKind.i64.wrap (10 * (4 - (i : Int))) = 10 * (4 - (i : Int)) ∧ 0 ≤ 10 * (4 - (i : Int)) ∧ IntKind.i64.wrap (1 * 2 ^ (min (10 * (4 - (i : Int))).toNat IntKind.i64.bits)) = (((UL.getD i (1, 0)).1 : Nat) : Int) ∧ UL.drop i = UL.getD i (1, 0) :: UL.drop (i + 1) ∧ 0 < (UL.getD i (1, 0)).1 ∧ (([98, 107, 77, 71, 84] : List UInt8).take (4 - (i : Int) + 1).toNat).drop (4 - (i : Int)).toNat = [(UL.getD i (1, 0)).2] := by
  match i, hi with
  | 0, _ => decide +kernel
  | 1, _ => decide +kernel
  | 2, _ => decide +kernel
  | 3, _ => decide +kernel
theorem prL_hit {m i : Nat} {U : Nat × UInt8} (hd : UL.drop i = U :: UL.drop (i + 1)) (h : 0 < m ∧ m % U.1 = 0) : prL (UL.drop i) m = Lib.decDigits (m / U.1) ++ [U.2] := by
  obtain ⟨a, b⟩ := U
  rw [hd, prL, if_pos h]
theorem prL_pass {m i : Nat} {U : Nat × UInt8} (hd : UL.drop i = U :: UL.drop (i + 1)) (h : ¬ (0 < m ∧ m % U.1 = 0)) : prL (UL.drop i) m = prL (UL.drop (i + 1)) m := by
  obtain ⟨a, b⟩ := U
  rw [hd, prL, if_neg h]
theorem prL_zero : ∀ (l : List (Nat × UInt8)), prL l 0 = Lib.decDigits 0
  | [] => rfl
  | (u, c) :: l => by rw [prL, if_neg (by omega)]; exact prL_zero l
theorem sizeS_ok (m : Nat) (h : m ≤ 4611686018427387904) : sizeS (m : Int) = (prL UL m, 0) := by
  rw [sizeS, if_neg (by omega), Int.toNat_natCast]
theorem rem0 (m u : Nat) : ((Int.tmod (m : Int) (u : Int)) == 0) = decide (m % u = 0) := by
  rw [show Int.tmod (m : Int) (u : Int) = ((m % u : Nat) : Int) from rfl, Bool.eq_iff_iff]
  simp
  omega
theorem nm25 : (Tryd.f25.name == "runtime.NumGoroutine") = false := by kernel_rfl
set_option maxHeartbeats 2000000 in
theorem printSize_fun (W0 : World) (hp : HasPow W0) (n : Int) :
  PFun Tryd.prog W0 25 [.one (pint n)] (.tup [.one (pstr (sizeS n).1), .one (pint (sizeS n).2)]) := by
 intro h
 refine pcalls1 (n := 43) Tryd.func25 rfl nm25 rfl fun hb => ?_
 refine pwp_then fun N1 hN1 => ?_
 refine pwp_reg fun R2 hR2 => ?_
 refine pops_mv (.inr rfl) rfl (by simp only [St.eval, constSlot] <;> rfl) ?_
 refine pops_mv (.inr rfl) rfl (by simp only [St.eval, constSlot] <;> rfl) ?_
 refine pops_done (hR2 _ ?_)
 clear hR2 R2
 try simp only [thenK, scopeK]
 refine hN1 _ ?_
 clear hN1 N1
 refine pwp_then fun N3 hN3 => ?_
 refine pwp_then fun N4 hN4 => ?_
 refine pwp_reg fun R5 hR5 => ?_
 refine pops_mv (.inl rfl) rfl (by simp only [St.eval, upd_at, Nat.reduceEqDiff, if_true, if_false] <;> rfl) ?_
 refine pops_to rfl fun M hM => ?_
 simp only [pop, St.eval, constSlot, upd_at, Nat.reduceEqDiff, if_true, if_false, popBin, binK, intK, strK, eqK, eq_self, true_and, and_true]
 refine hM _ _ ?_
 clear hM M
 refine pops_mv (.inl rfl) rfl (by simp only [St.eval, upd_at, Nat.reduceEqDiff, if_true, if_false] <;> rfl) ?_
 apply pops_or0 3 9 12 [10, 11] (by simp only [upd_at, Nat.reduceEqDiff, if_true, if_false] <;> rfl)
 ·skip
  intro g9_0 J6 hJ6
  simp only [List.take_succ_cons, List.take_zero]
  simp only [anyAt_cons, anyAt_nil] at hJ6
  refine pops_mvg (.inl rfl) rfl rfl (by simp only [upd_at, Nat.reduceEqDiff, if_true, if_false, g9_0]) (by simp only [St.eval, upd_at, Nat.reduceEqDiff, if_true, if_false, g9_0] <;> rfl) ?_
  refine pops_do rfl rfl (by simp only [upd_at, Nat.reduceEqDiff, if_true, if_false, g9_0]) fun M hM => ?_
  simp only [pop, St.eval, constSlot, upd_at, Nat.reduceEqDiff, if_true, if_false, popBin, binK, intK, strK, eqK, eq_self, true_and, and_true, g9_0]
  refine hM _ _ ?_
  clear hM M
  refine pops_to rfl fun M hM => ?_
  simp only [pop, St.eval, constSlot, upd_at, Nat.reduceEqDiff, if_true, if_false, popIf, true_implies, false_implies, Bool.true_eq_false, Bool.false_eq_true, reduceCtorEq, true_and, and_true, g9_0]
  refine hM _ _ ?_
  clear hM M
  exact pops_done (hJ6 _ (wk_same (wk_any ((wk_any (Wk.refl _ _))))))
 ·skip
  intro g9_0 J6 hJ6
  simp only [List.take_succ_cons, List.take_zero]
  simp only [anyAt_cons, anyAt_nil] at hJ6
  refine pops_off (b := true) rfl rfl (by simp only [upd_at, Nat.reduceEqDiff, if_true, if_false, g9_0]) (by decide) ?_
  refine pops_off (b := true) rfl rfl (by simp only [upd_at, Nat.reduceEqDiff, if_true, if_false, g9_0]) (by decide) ?_
  refine pops_to rfl fun M hM => ?_
  simp only [pop, St.eval, constSlot, upd_at, Nat.reduceEqDiff, if_true, if_false, popIf, true_implies, false_implies, Bool.true_eq_false, Bool.false_eq_true, reduceCtorEq, true_and, and_true, g9_0]
  refine hM _ _ ?_
  clear hM M
  exact pops_done (hJ6 _ (wk_same (wk_any ((wk_any (Wk.refl _ _))))))
 simp only [List.drop_succ_cons, List.drop_zero, anyAt_cons, anyAt_nil]
 refine pops_done (hR5 _ ?_)
 clear hR5 R5
 try simp only [thenK, scopeK]
 refine hN4 _ ?_
 clear hN4 N4
 refine pwp_cond (by simp only [St.eval, upd_at, Nat.reduceEqDiff, if_true, if_false] <;> rfl) (fun c12 => ?_) (fun c12 => ?_)
 ·skip
  have h : n < 0 ∨ 4611686018427387904 < n := by simpa using c12
  have hs : sizeS n = ([], 7) := by rw [sizeS, if_pos h]
  refine pwp_then fun N7 hN7 => ?_
  refine pwp_reg fun R8 hR8 => ?_
  refine pops_mv (.inr rfl) rfl (by simp only [St.eval, constSlot] <;> rfl) ?_
  refine pops_mv (.inr rfl) rfl (by simp only [St.eval, constSlot] <;> rfl) ?_
  refine pops_done (hR8 _ ?_)
  clear hR8 R8
  try simp only [thenK, scopeK]
  refine hN7 _ ?_
  clear hN7 N7
  refine pwp_ret ?_
  simp only [thenK, blockK, scopeK, bodyK]
  clear hN3 N3
  refine ⟨_, rfl, endFun (Same.refl _) ?_⟩
  try simp only [upd_at, Nat.reduceEqDiff, if_true, if_false]
  all_goals
   rw [hs]
 ·skip
  have hr : 0 ≤ n ∧ n ≤ 4611686018427387904 := by simp at c12; omega
  obtain ⟨m, rfl⟩ : ∃ m : Nat, n = (m : Int) := ⟨n.toNat, by omega⟩
  have hs := sizeS_ok m (by omega)
  refine pwp_skip ?_
  try simp only [thenK, scopeK]
  refine hN3 _ ?_
  clear hN3 N3
  refine pwp_then fun N9 hN9 => ?_
  refine pwp_reg fun R10 hR10 => ?_
  refine pops_mv (.inr rfl) rfl (by simp only [St.eval, constSlot] <;> rfl) ?_
  refine pops_done (hR10 _ ?_)
  clear hR10 R10
  try simp only [thenK, scopeK]
  refine hN9 _ ?_
  clear hN9 N9
  refine pwp_then fun N11 hN11 => ?_
  refine pwp_then fun N12 hN12 => ?_
  refine pwp_reg fun R13 hR13 => ?_
  refine pops_mv (.inl rfl) rfl (by simp only [St.eval, upd_at, Nat.reduceEqDiff, if_true, if_false] <;> rfl) ?_
  refine pops_to rfl fun M hM => ?_
  simp only [pop, St.eval, constSlot, upd_at, Nat.reduceEqDiff, if_true, if_false, popCall, List.toList_toArray, List.map_cons, List.map_nil, popBuiltin, popLen, lenOfSlot, List.length_map, Tryd.underlying9, eq_self, true_and, and_true, str_list, str_size, str_app, str_cut, str_get]
  refine hM _ _ ?_
  clear hM M
  refine pops_mv (.inl rfl) rfl (by simp only [St.eval, constSlot] <;> rfl) ?_
  refine pops_done (hR13 _ ?_)
  clear hR13 R13
  try simp only [thenK, scopeK]
  refine hN12 _ ?_
  clear hN12 N12
  refine pwp_block ?_
  refine pwp_loop (fun k σ => ∃ (i : Nat), (k = 4 - i) ∧ (i ≤ 4) ∧ (prL (UL.drop i) m = prL UL m) ∧ (Same h σ.hp) ∧ (σ.env 0 = .sv (.one (pint (m : Nat)))) ∧ (σ.env 4 = .sv (.one (pstr [84, 71, 77, 107]))) ∧ (σ.env 14 = .sv (.one (pint (([84, 71, 77, 107] : List UInt8).length : Nat)))) ∧ (σ.env 15 = .sv (.one (pint (i : Nat))))) _ ⟨_, .refl _ _, 0, rfl, ?_⟩ ?_
  · exact ⟨Nat.zero_le _, rfl, (Same.refl _), by simp only [upd_at, Nat.reduceEqDiff, if_true, if_false], by simp only [upd_at, Nat.reduceEqDiff, if_true, if_false] <;> rfl, by simp only [upd_at, Nat.reduceEqDiff, if_true, if_false] <;> rfl, by simp only [upd_at, Nat.reduceEqDiff, if_true, if_false]; rfl⟩
  ·rintro k ⟨e, hp0⟩ ⟨i, hk0, hx0_0, hx0_1, sl0, e0_0, e0_4, e0_14, e0_15⟩
   simp only at sl0 e0_0 e0_4 e0_14 e0_15
   refine pwp_then fun N14 hN14 => ?_
   refine pwp_reg fun R15 hR15 => ?_
   refine pops_to rfl fun M hM => ?_
   simp only [pop, St.eval, constSlot, upd_at, Nat.reduceEqDiff, if_true, if_false, popBin, binK, intK, strK, eqK, eq_self, true_and, and_true, e0_0, e0_4, e0_14, e0_15]
   refine hM _ _ ?_
   clear hM M
   refine pops_done (hR15 _ ?_)
   clear hR15 R15
   try simp only [thenK, scopeK]
   refine hN14 _ ?_
   clear hN14 N14
   refine pwp_then fun N16 hN16 => ?_
   refine pwp_cond (by simp only [St.eval, upd_at, Nat.reduceEqDiff, if_true, if_false, e0_0, e0_4, e0_14, e0_15] <;> rfl) (fun c16 => ?_) (fun c16 => ?_)
   ·skip
    have hi : i < 4 := by have := of_decide_eq_true c16; simp only [List.length_cons, List.length_nil] at this; omega
    obtain ⟨hs1, hs2, hs3, hs4, hd, hu0, hcut⟩ := shl40 i hi
    have hw37 : IntKind.i64.wrap ((i : Int) + 1) = ((i + 1 : Nat) : Int) := wrap_succ (by omega)
    have hq := quo_nat m (UL.getD i (1, 0)).1 (by omega)
    refine pwp_skip ?_
    try simp only [thenK, scopeK]
    refine hN16 _ ?_
    clear hN16 N16
    refine pwp_then fun N17 hN17 => ?_
    refine pwp_block ?_
    refine pwp_then fun N18 hN18 => ?_
    refine pwp_reg fun R19 hR19 => ?_
    refine pops_mv (.inl rfl) rfl (by simp only [St.eval, upd_at, Nat.reduceEqDiff, if_true, if_false, e0_0, e0_4, e0_14, e0_15] <;> rfl) ?_
    refine pops_mv (.inr rfl) rfl (by simp only [St.eval, upd_at, Nat.reduceEqDiff, if_true, if_false, e0_0, e0_4, e0_14, e0_15] <;> rfl) ?_
    refine pops_done (hR19 _ ?_)
    clear hR19 R19
    try simp only [thenK, scopeK]
    refine hN18 _ ?_
    clear hN18 N18
    refine pwp_then fun N20 hN20 => ?_
    refine pwp_reg fun R21 hR21 => ?_
    refine pops_mv (.inl rfl) rfl (by simp only [St.eval, upd_at, Nat.reduceEqDiff, if_true, if_false, e0_0, e0_4, e0_14, e0_15] <;> rfl) ?_
    refine pops_to rfl fun M hM => ?_
    simp only [pop, St.eval, constSlot, upd_at, Nat.reduceEqDiff, if_true, if_false, popBin, binK, intK, strK, eqK, eq_self, true_and, and_true, e0_0, e0_4, e0_14, e0_15, hs1]
    refine hM _ _ ?_
    clear hM M
    refine pops_to rfl fun M hM => ?_
    simp only [pop, St.eval, constSlot, upd_at, Nat.reduceEqDiff, if_true, if_false, popBin, binK, intK, strK, eqK, eq_self, true_and, and_true, e0_0, e0_4, e0_14, e0_15]
    refine hM _ _ ?_
    clear hM M
    refine pops_to rfl fun M hM => ?_
    simp only [pop, St.eval, constSlot, upd_at, Nat.reduceEqDiff, if_true, if_false, popBin, binK, intK, strK, eqK, eq_self, true_and, and_true, e0_0, e0_4, e0_14, e0_15, hs3]
    refine ⟨hs2, hM _ _ ?_⟩
    clear hM M
    refine pops_mv (.inr rfl) rfl (by simp only [St.eval, upd_at, Nat.reduceEqDiff, if_true, if_false, e0_0, e0_4, e0_14, e0_15] <;> rfl) ?_
    refine pops_done (hR21 _ ?_)
    clear hR21 R21
    try simp only [thenK, scopeK]
    refine hN20 _ ?_
    clear hN20 N20
    refine pwp_then fun N22 hN22 => ?_
    refine pwp_reg fun R23 hR23 => ?_
    refine pops_mv (.inl rfl) rfl (by simp only [St.eval, upd_at, Nat.reduceEqDiff, if_true, if_false, e0_0, e0_4, e0_14, e0_15] <;> rfl) ?_
    refine pops_to rfl fun M hM => ?_
    simp only [pop, St.eval, constSlot, upd_at, Nat.reduceEqDiff, if_true, if_false, popBin, binK, intK, strK, eqK, eq_self, true_and, and_true, e0_0, e0_4, e0_14, e0_15]
    refine hM _ _ ?_
    clear hM M
    refine pops_mv (.inl rfl) rfl (by simp only [St.eval, upd_at, Nat.reduceEqDiff, if_true, if_false, e0_0, e0_4, e0_14, e0_15] <;> rfl) ?_
    apply pops_and0 5 24 29 [25, 26, 27, 28] (by simp only [upd_at, Nat.reduceEqDiff, if_true, if_false, e0_0, e0_4, e0_14, e0_15] <;> rfl)
    ·skip
     intro g24_0 J24 hJ24
     simp only [List.take_succ_cons, List.take_zero]
     simp only [anyAt_cons, anyAt_nil] at hJ24
     refine pops_mvg (.inl rfl) rfl rfl (by simp only [upd_at, Nat.reduceEqDiff, if_true, if_false, e0_0, e0_4, e0_14, e0_15, g24_0]) (by simp only [St.eval, upd_at, Nat.reduceEqDiff, if_true, if_false, e0_0, e0_4, e0_14, e0_15, g24_0] <;> rfl) ?_
     refine pops_mvg (.inl rfl) rfl rfl (by simp only [upd_at, Nat.reduceEqDiff, if_true, if_false, e0_0, e0_4, e0_14, e0_15, g24_0]) (by simp only [St.eval, upd_at, Nat.reduceEqDiff, if_true, if_false, e0_0, e0_4, e0_14, e0_15, g24_0] <;> rfl) ?_
     refine pops_do rfl rfl (by simp only [upd_at, Nat.reduceEqDiff, if_true, if_false, e0_0, e0_4, e0_14, e0_15, g24_0]) fun M hM => ?_
     simp only [pop, St.eval, constSlot, upd_at, Nat.reduceEqDiff, if_true, if_false, popBin, binK, intK, strK, eqK, eq_self, true_and, and_true, e0_0, e0_4, e0_14, e0_15, g24_0]
     refine ⟨by omega, hM _ _ ?_⟩
     clear hM M
     refine pops_do rfl rfl (by simp only [upd_at, Nat.reduceEqDiff, if_true, if_false, e0_0, e0_4, e0_14, e0_15, g24_0]) fun M hM => ?_
     simp only [pop, St.eval, constSlot, upd_at, Nat.reduceEqDiff, if_true, if_false, popBin, binK, intK, strK, eqK, Tryd.underlying3, isPtr, eq_self, true_and, and_true, e0_0, e0_4, e0_14, e0_15, g24_0]
     refine hM _ _ ?_
     clear hM M
     refine pops_to rfl fun M hM => ?_
     simp only [pop, St.eval, constSlot, upd_at, Nat.reduceEqDiff, if_true, if_false, popIf, true_implies, false_implies, Bool.true_eq_false, Bool.false_eq_true, reduceCtorEq, true_and, and_true, e0_0, e0_4, e0_14, e0_15, g24_0]
     refine hM _ _ ?_
     clear hM M
     exact pops_done (hJ24 _ (wk_same (wk_any ((wk_any ((wk_any ((wk_any (Wk.refl _ _))))))))))
    ·skip
     intro g24_0 J24 hJ24
     simp only [List.take_succ_cons, List.take_zero]
     simp only [anyAt_cons, anyAt_nil] at hJ24
     refine pops_off (b := false) rfl rfl (by simp only [upd_at, Nat.reduceEqDiff, if_true, if_false, e0_0, e0_4, e0_14, e0_15, g24_0]) (by decide) ?_
     refine pops_off (b := false) rfl rfl (by simp only [upd_at, Nat.reduceEqDiff, if_true, if_false, e0_0, e0_4, e0_14, e0_15, g24_0]) (by decide) ?_
     refine pops_off (b := false) rfl rfl (by simp only [upd_at, Nat.reduceEqDiff, if_true, if_false, e0_0, e0_4, e0_14, e0_15, g24_0]) (by decide) ?_
     refine pops_off (b := false) rfl rfl (by simp only [upd_at, Nat.reduceEqDiff, if_true, if_false, e0_0, e0_4, e0_14, e0_15, g24_0]) (by decide) ?_
     refine pops_to rfl fun M hM => ?_
     simp only [pop, St.eval, constSlot, upd_at, Nat.reduceEqDiff, if_true, if_false, popIf, true_implies, false_implies, Bool.true_eq_false, Bool.false_eq_true, reduceCtorEq, true_and, and_true, e0_0, e0_4, e0_14, e0_15, g24_0]
     refine hM _ _ ?_
     clear hM M
     exact pops_done (hJ24 _ (wk_same (wk_any ((wk_any ((wk_any ((wk_any (Wk.refl _ _))))))))))
    simp only [List.drop_succ_cons, List.drop_zero, anyAt_cons, anyAt_nil]
    refine pops_done (hR23 _ ?_)
    clear hR23 R23
    try simp only [thenK, scopeK]
    refine hN22 _ ?_
    clear hN22 N22
    refine pwp_cond (by simp only [St.eval, upd_at, Nat.reduceEqDiff, if_true, if_false, e0_0, e0_4, e0_14, e0_15] <;> rfl) (fun c29 => ?_) (fun c29 => ?_)
    ·skip
     rw [rem0] at c29
     have h29 : 0 < m ∧ m % (UL.getD i (1, 0)).1 = 0 := by simpa using c29
     have hend : prL UL m = Lib.decDigits (m / (UL.getD i (1, 0)).1) ++ [(UL.getD i (1, 0)).2] := hx0_1.symm.trans (prL_hit hd h29)
     refine pwp_then fun N25 hN25 => ?_
     refine pwp_dreg 12 mixed (by decide +kernel) fun R26 hR26 => ?_
     simp only [List.take_succ_cons, List.take_zero, List.drop_succ_cons, List.drop_zero]
     apply lex_to
     · rfl
     ·intro h' s' M hM
      simp only [pop, St.eval, constSlot, upd_at, Nat.reduceEqDiff, if_true, if_false, eq_self, true_and, and_true, str_list, str_size, str_app, str_cut, str_get, e0_0, e0_4, e0_14, e0_15, s'.1]
      exact hM _ (.refl _)
     apply lex_to
     · rfl
     ·intro h' s' M hM
      simp only [pop, St.eval, constSlot, upd_at, Nat.reduceEqDiff, if_true, if_false, eq_self, true_and, and_true, str_list, str_size, str_app, str_cut, str_get, e0_0, e0_4, e0_14, e0_15, s'.1]
      exact hM _ (.refl _)
     apply lex_to
     · rfl
     ·intro h' s' M hM
      simp only [pop, St.eval, constSlot, upd_at, Nat.reduceEqDiff, if_true, if_false, popBin, binK, intK, strK, eqK, eq_self, true_and, and_true, e0_0, e0_4, e0_14, e0_15, hq, s'.1]
      refine ⟨by omega, ?_⟩
      exact hM _ (.refl _)
     apply lex_to
     · rfl
     ·intro h' s' M hM
      simp only [pop, St.eval, constSlot, upd_at, Nat.reduceEqDiff, if_true, if_false, popCall, List.toList_toArray, List.map_cons, List.map_nil, svs, List.mapM_cons, List.mapM_nil, Option.bind_eq_bind, Option.bind_some, Option.pure_def, List.append_nil, List.cons_append, List.nil_append, str_size, e0_0, e0_4, e0_14, e0_15, s'.1]
      refine PFun.use (itoa_fun W0 hp (m / (UL.getD i (1, 0)).1) (by have := div_le' m (UL.getD i (1, 0)).1 (by omega); omega)) fun hp s => hM _ s
     apply lex_to
     · rfl
     ·intro h' s' M hM
      simp only [pop, St.eval, constSlot, upd_at, Nat.reduceEqDiff, if_true, if_false, eq_self, true_and, and_true, str_list, str_size, str_app, str_cut, str_get, e0_0, e0_4, e0_14, e0_15, s'.1]
      exact hM _ (.refl _)
     apply lex_to
     · rfl
     ·intro h' s' M hM
      simp only [pop, St.eval, constSlot, upd_at, Nat.reduceEqDiff, if_true, if_false, eq_self, true_and, and_true, str_list, str_size, str_app, str_cut, str_get, e0_0, e0_4, e0_14, e0_15, s'.1]
      exact hM _ (.refl _)
     apply lex_to
     · rfl
     ·intro h' s' M hM
      simp only [pop, St.eval, constSlot, upd_at, Nat.reduceEqDiff, if_true, if_false, eq_self, true_and, and_true, str_list, str_size, str_app, str_cut, str_get, e0_0, e0_4, e0_14, e0_15, s'.1]
      exact hM _ (.refl _)
     apply lex_to
     · rfl
     ·intro h' s' M hM
      simp only [pop, St.eval, constSlot, upd_at, Nat.reduceEqDiff, if_true, if_false, popBin, binK, intK, strK, eqK, eq_self, true_and, and_true, e0_0, e0_4, e0_14, e0_15, hw37, s'.1]
      exact hM _ (.refl _)
     apply lex_to
     · rfl
     ·intro h' s' M hM
      simp only [pop, St.eval, constSlot, upd_at, Nat.reduceEqDiff, if_true, if_false, popSlice, boundOf, Option.map_none, Option.map_some, Tryd.underlying9, eq_self, true_and, and_true, str_list, str_size, str_app, str_cut, str_get, e0_0, e0_4, e0_14, e0_15, Int.toNat_natCast, hcut, s'.1]
      refine ⟨by omega, by omega, by simp only [List.length_cons, List.length_nil]; omega, ?_⟩
      exact hM _ (.refl _)
     apply lex_to
     · rfl
     ·intro h' s' M hM
      simp only [pop, St.eval, constSlot, upd_at, Nat.reduceEqDiff, if_true, if_false, popBin, binK, intK, strK, eqK, eq_self, true_and, and_true, str_list, str_size, str_app, str_cut, str_get, e0_0, e0_4, e0_14, e0_15, s'.1]
      refine ⟨by have := dec_len20 (div_le' m (UL.getD i (1, 0)).1 (by omega)); simp only [List.length_append, List.length_cons, List.length_nil]; omega, ?_⟩
      exact hM _ (.refl _)
     apply lex_to
     · rfl
     ·intro h' s' M hM
      simp only [pop, St.eval, constSlot, upd_at, Nat.reduceEqDiff, if_true, if_false, eq_self, true_and, and_true, str_list, str_size, str_app, str_cut, str_get, e0_0, e0_4, e0_14, e0_15, s'.1]
      exact hM _ (.refl _)
     apply lex_to
     · rfl
     ·intro h' s' M hM
      simp only [pop, St.eval, constSlot, upd_at, Nat.reduceEqDiff, if_true, if_false, eq_self, true_and, and_true, str_list, str_size, str_app, str_cut, str_get, e0_0, e0_4, e0_14, e0_15, s'.1]
      exact hM _ (.refl _)
     refine lex_done fun hq sq => ?_
     replace sq := Same.trans sl0 sq
     refine pops_done (hR26 _ ?_)
     clear hR26 R26
     try simp only [thenK, scopeK]
     refine hN25 _ ?_
     clear hN25 N25
     refine pwp_ret ?_
     simp only [thenK, blockK, scopeK, bodyK]
     clear hN17 N17 hN11 N11
     refine ⟨_, rfl, endFun sq ?_⟩
     try simp only [upd_at, Nat.reduceEqDiff, if_true, if_false, e0_0, e0_4, e0_14, e0_15]
     all_goals
      rw [hs, hend]
    ·skip
     rw [rem0] at c29
     have h29 : ¬ (0 < m ∧ m % (UL.getD i (1, 0)).1 = 0) := by
       intro h
       have h0 : 0 < (m : Int) := by omega
       rw [decide_eq_true h.2, decide_eq_true (show (m : Int) > 0 from h0)] at c29
       cases c29
     have hpass := prL_pass hd h29
     refine pwp_skip ?_
     try simp only [blockK, thenK, scopeK]
     try simp only [thenK, scopeK]
     refine hN17 _ ?_
     clear hN17 N17
     refine pwp_reg fun R27 hR27 => ?_
     refine pops_to rfl fun M hM => ?_
     simp only [pop, St.eval, constSlot, upd_at, Nat.reduceEqDiff, if_true, if_false, popBin, binK, intK, strK, eqK, eq_self, true_and, and_true, e0_0, e0_4, e0_14, e0_15]
     refine hM _ _ ?_
     clear hM M
     refine pops_mv (.inl rfl) rfl (by simp only [St.eval, upd_at, Nat.reduceEqDiff, if_true, if_false, e0_0, e0_4, e0_14, e0_15] <;> rfl) ?_
     refine pops_done (hR27 _ ?_)
     clear hR27 R27
     try simp only [thenK, scopeK]
     exact ⟨_, by omega, _, .refl _ _, i + 1, rfl, by omega, hpass.symm.trans hx0_1, sl0, by simp only [upd_at, Nat.reduceEqDiff, if_true, if_false, e0_0, e0_4, e0_14, e0_15], by simp only [upd_at, Nat.reduceEqDiff, if_true, if_false, e0_0, e0_4, e0_14, e0_15], by simp only [upd_at, Nat.reduceEqDiff, if_true, if_false, e0_0, e0_4, e0_14, e0_15], by simp only [upd_at, Nat.reduceEqDiff, if_true, if_false, e0_15]; rw [wrap_succ (by omega)]⟩
   ·skip
    have hi : i = 4 := by have := of_decide_eq_false c16; simp only [List.length_cons, List.length_nil] at this; omega
    subst hi
    have hend : prL UL m = Lib.decDigits m := hx0_1.symm
    refine pwp_exit ?_
    try simp only [thenK, blockK, scopeK, if_true, Nat.reduceEqDiff, if_false]
    clear hN16 N16
    try simp only [blockK, scopeK, if_true, Nat.reduceEqDiff, if_false, thenK]
    try simp only [thenK, scopeK]
    refine hN11 _ ?_
    clear hN11 N11
    refine pwp_then fun N28 hN28 => ?_
    refine pwp_reg fun R29 hR29 => ?_
    refine pops_mv (.inl rfl) rfl (by simp only [St.eval, upd_at, Nat.reduceEqDiff, if_true, if_false, e0_0, e0_4, e0_14, e0_15] <;> rfl) ?_
    refine pops_to rfl fun M hM => ?_
    simp only [pop, St.eval, constSlot, upd_at, Nat.reduceEqDiff, if_true, if_false, popCall, List.toList_toArray, List.map_cons, List.map_nil, svs, List.mapM_cons, List.mapM_nil, Option.bind_eq_bind, Option.bind_some, Option.pure_def, List.append_nil, List.cons_append, List.nil_append, str_size, e0_0, e0_4, e0_14, e0_15]
    refine PFun.use (itoa_fun W0 hp m (by omega)) fun h1 s1 => hM _ _ ?_
    replace s1 := Same.trans sl0 s1
    clear hM M
    refine pops_mv (.inr rfl) rfl (by simp only [St.eval, upd_at, Nat.reduceEqDiff, if_true, if_false, e0_0, e0_4, e0_14, e0_15] <;> rfl) ?_
    refine pops_mv (.inr rfl) rfl (by simp only [St.eval, constSlot] <;> rfl) ?_
    refine pops_done (hR29 _ ?_)
    clear hR29 R29
    try simp only [thenK, scopeK]
    refine hN28 _ ?_
    clear hN28 N28
    refine pwp_ret ?_
    simp only [thenK, blockK, scopeK, bodyK]
    refine ⟨_, rfl, endFun s1 ?_⟩
    try simp only [upd_at, Nat.reduceEqDiff, if_true, if_false, e0_0, e0_4, e0_14, e0_15]
    all_goals
     rw [hs, hend]

theorem nm26 : (Tryd.f26.name == "runtime.NumGoroutine") = false := by kernel_rfl
set_option maxHeartbeats 2000000 in
theorem printSizeRef_fun (W0 : World) (hp : HasPow W0) (n : Int) :
  PFun Tryd.prog W0 26 [.one (pint n)] (.tup [.one (pstr (sizeS n).1), .one (pint (sizeS n).2)]) := by
 intro h
 refine pcalls1 (n := 38) Tryd.func26 rfl nm26 rfl fun hb => ?_
 refine pwp_then fun N1 hN1 => ?_
 refine pwp_reg fun R2 hR2 => ?_
 refine pops_mv (.inr rfl) rfl (by simp only [St.eval, constSlot] <;> rfl) ?_
 refine pops_mv (.inr rfl) rfl (by simp only [St.eval, constSlot] <;> rfl) ?_
 refine pops_done (hR2 _ ?_)
 clear hR2 R2
 try simp only [thenK, scopeK]
 refine hN1 _ ?_
 clear hN1 N1
 refine pwp_then fun N3 hN3 => ?_
 refine pwp_then fun N4 hN4 => ?_
 refine pwp_reg fun R5 hR5 => ?_
 refine pops_mv (.inl rfl) rfl (by simp only [St.eval, upd_at, Nat.reduceEqDiff, if_true, if_false] <;> rfl) ?_
 refine pops_to rfl fun M hM => ?_
 simp only [pop, St.eval, constSlot, upd_at, Nat.reduceEqDiff, if_true, if_false, popBin, binK, intK, strK, eqK, eq_self, true_and, and_true]
 refine hM _ _ ?_
 clear hM M
 refine pops_mv (.inl rfl) rfl (by simp only [St.eval, upd_at, Nat.reduceEqDiff, if_true, if_false] <;> rfl) ?_
 apply pops_or0 3 8 11 [9, 10] (by simp only [upd_at, Nat.reduceEqDiff, if_true, if_false] <;> rfl)
 ·skip
  intro g8_0 J6 hJ6
  simp only [List.take_succ_cons, List.take_zero]
  simp only [anyAt_cons, anyAt_nil] at hJ6
  refine pops_mvg (.inl rfl) rfl rfl (by simp only [upd_at, Nat.reduceEqDiff, if_true, if_false, g8_0]) (by simp only [St.eval, upd_at, Nat.reduceEqDiff, if_true, if_false, g8_0] <;> rfl) ?_
  refine pops_do rfl rfl (by simp only [upd_at, Nat.reduceEqDiff, if_true, if_false, g8_0]) fun M hM => ?_
  simp only [pop, St.eval, constSlot, upd_at, Nat.reduceEqDiff, if_true, if_false, popBin, binK, intK, strK, eqK, eq_self, true_and, and_true, g8_0]
  refine hM _ _ ?_
  clear hM M
  refine pops_to rfl fun M hM => ?_
  simp only [pop, St.eval, constSlot, upd_at, Nat.reduceEqDiff, if_true, if_false, popIf, true_implies, false_implies, Bool.true_eq_false, Bool.false_eq_true, reduceCtorEq, true_and, and_true, g8_0]
  refine hM _ _ ?_
  clear hM M
  exact pops_done (hJ6 _ (wk_same (wk_any ((wk_any (Wk.refl _ _))))))
 ·skip
  intro g8_0 J6 hJ6
  simp only [List.take_succ_cons, List.take_zero]
  simp only [anyAt_cons, anyAt_nil] at hJ6
  refine pops_off (b := true) rfl rfl (by simp only [upd_at, Nat.reduceEqDiff, if_true, if_false, g8_0]) (by decide) ?_
  refine pops_off (b := true) rfl rfl (by simp only [upd_at, Nat.reduceEqDiff, if_true, if_false, g8_0]) (by decide) ?_
  refine pops_to rfl fun M hM => ?_
  simp only [pop, St.eval, constSlot, upd_at, Nat.reduceEqDiff, if_true, if_false, popIf, true_implies, false_implies, Bool.true_eq_false, Bool.false_eq_true, reduceCtorEq, true_and, and_true, g8_0]
  refine hM _ _ ?_
  clear hM M
  exact pops_done (hJ6 _ (wk_same (wk_any ((wk_any (Wk.refl _ _))))))
 simp only [List.drop_succ_cons, List.drop_zero, anyAt_cons, anyAt_nil]
 refine pops_done (hR5 _ ?_)
 clear hR5 R5
 try simp only [thenK, scopeK]
 refine hN4 _ ?_
 clear hN4 N4
 refine pwp_cond (by simp only [St.eval, upd_at, Nat.reduceEqDiff, if_true, if_false] <;> rfl) (fun c11 => ?_) (fun c11 => ?_)
 ·skip
  have h : n < 0 ∨ 4611686018427387904 < n := by simpa using c11
  have hs : sizeS n = ([], 7) := by rw [sizeS, if_pos h]
  refine pwp_then fun N7 hN7 => ?_
  refine pwp_reg fun R8 hR8 => ?_
  refine pops_mv (.inr rfl) rfl (by simp only [St.eval, constSlot] <;> rfl) ?_
  refine pops_mv (.inr rfl) rfl (by simp only [St.eval, constSlot] <;> rfl) ?_
  refine pops_done (hR8 _ ?_)
  clear hR8 R8
  try simp only [thenK, scopeK]
  refine hN7 _ ?_
  clear hN7 N7
  refine pwp_ret ?_
  simp only [thenK, blockK, scopeK, bodyK]
  clear hN3 N3
  refine ⟨_, rfl, endFun (Same.refl _) ?_⟩
  try simp only [upd_at, Nat.reduceEqDiff, if_true, if_false]
  all_goals
   rw [hs]
 ·skip
  have hr : 0 ≤ n ∧ n ≤ 4611686018427387904 := by simp at c11; omega
  obtain ⟨m, rfl⟩ : ∃ m : Nat, n = (m : Int) := ⟨n.toNat, by omega⟩
  have hs := sizeS_ok m (by omega)
  refine pwp_skip ?_
  try simp only [thenK, scopeK]
  refine hN3 _ ?_
  clear hN3 N3
  refine pwp_then fun N9 hN9 => ?_
  refine pwp_then fun N10 hN10 => ?_
  refine pwp_reg fun R11 hR11 => ?_
  refine pops_mv (.inr rfl) rfl (by simp only [St.eval, constSlot] <;> rfl) ?_
  refine pops_done (hR11 _ ?_)
  clear hR11 R11
  try simp only [thenK, scopeK]
  refine hN10 _ ?_
  clear hN10 N10
  refine pwp_block ?_
  refine pwp_loop (fun k σ => ∃ (i : Nat), (k = 4 - i) ∧ (i ≤ 4) ∧ (prL (UL.drop i) m = prL UL m) ∧ (Same h σ.hp) ∧ (σ.env 0 = .sv (.one (pint (m : Nat)))) ∧ (σ.env 4 = .sv (.one (pint (4 - (i : Int)))))) _ ⟨_, .refl _ _, 0, rfl, ?_⟩ ?_
  · exact ⟨Nat.zero_le _, rfl, (Same.refl _), by simp only [upd_at, Nat.reduceEqDiff, if_true, if_false], by simp only [upd_at, Nat.reduceEqDiff, if_true, if_false]; rfl⟩
  ·rintro k ⟨e, hp0⟩ ⟨i, hk0, hx0_0, hx0_1, sl0, e0_0, e0_4⟩
   simp only at sl0 e0_0 e0_4
   refine pwp_then fun N12 hN12 => ?_
   refine pwp_then fun N13 hN13 => ?_
   refine pwp_reg fun R14 hR14 => ?_
   refine pops_mv (.inl rfl) rfl (by simp only [St.eval, upd_at, Nat.reduceEqDiff, if_true, if_false, e0_0, e0_4] <;> rfl) ?_
   refine pops_to rfl fun M hM => ?_
   simp only [pop, St.eval, constSlot, upd_at, Nat.reduceEqDiff, if_true, if_false, popBin, binK, intK, strK, eqK, eq_self, true_and, and_true, e0_0, e0_4]
   refine hM _ _ ?_
   clear hM M
   refine pops_mv (.inl rfl) rfl (by simp only [St.eval, upd_at, Nat.reduceEqDiff, if_true, if_false, e0_0, e0_4] <;> rfl) ?_
   apply pops_and0 3 14 17 [15, 16] (by simp only [upd_at, Nat.reduceEqDiff, if_true, if_false, e0_0, e0_4] <;> rfl)
   ·skip
    intro g14_0 J15 hJ15
    simp only [List.take_succ_cons, List.take_zero]
    simp only [anyAt_cons, anyAt_nil] at hJ15
    refine pops_mvg (.inl rfl) rfl rfl (by simp only [upd_at, Nat.reduceEqDiff, if_true, if_false, e0_0, e0_4, g14_0]) (by simp only [St.eval, upd_at, Nat.reduceEqDiff, if_true, if_false, e0_0, e0_4, g14_0] <;> rfl) ?_
    refine pops_do rfl rfl (by simp only [upd_at, Nat.reduceEqDiff, if_true, if_false, e0_0, e0_4, g14_0]) fun M hM => ?_
    simp only [pop, St.eval, constSlot, upd_at, Nat.reduceEqDiff, if_true, if_false, popBin, binK, intK, strK, eqK, eq_self, true_and, and_true, e0_0, e0_4, g14_0]
    refine hM _ _ ?_
    clear hM M
    refine pops_to rfl fun M hM => ?_
    simp only [pop, St.eval, constSlot, upd_at, Nat.reduceEqDiff, if_true, if_false, popIf, true_implies, false_implies, Bool.true_eq_false, Bool.false_eq_true, reduceCtorEq, true_and, and_true, e0_0, e0_4, g14_0]
    refine hM _ _ ?_
    clear hM M
    exact pops_done (hJ15 _ (wk_same (wk_any ((wk_any (Wk.refl _ _))))))
   ·skip
    intro g14_0 J15 hJ15
    simp only [List.take_succ_cons, List.take_zero]
    simp only [anyAt_cons, anyAt_nil] at hJ15
    refine pops_off (b := false) rfl rfl (by simp only [upd_at, Nat.reduceEqDiff, if_true, if_false, e0_0, e0_4, g14_0]) (by decide) ?_
    refine pops_off (b := false) rfl rfl (by simp only [upd_at, Nat.reduceEqDiff, if_true, if_false, e0_0, e0_4, g14_0]) (by decide) ?_
    refine pops_to rfl fun M hM => ?_
    simp only [pop, St.eval, constSlot, upd_at, Nat.reduceEqDiff, if_true, if_false, popIf, true_implies, false_implies, Bool.true_eq_false, Bool.false_eq_true, reduceCtorEq, true_and, and_true, e0_0, e0_4, g14_0]
    refine hM _ _ ?_
    clear hM M
    exact pops_done (hJ15 _ (wk_same (wk_any ((wk_any (Wk.refl _ _))))))
   simp only [List.drop_succ_cons, List.drop_zero, anyAt_cons, anyAt_nil]
   refine pops_done (hR14 _ ?_)
   clear hR14 R14
   try simp only [thenK, scopeK]
   refine hN13 _ ?_
   clear hN13 N13
   refine pwp_cond (by simp only [St.eval, upd_at, Nat.reduceEqDiff, if_true, if_false, e0_0, e0_4] <;> rfl) (fun c17 => ?_) (fun c17 => ?_)
   ·skip
    have h17 : i < 4 ∧ 0 < m := by simp only [Bool.and_eq_true, decide_eq_true_eq] at c17; omega
    obtain ⟨hi, hm0⟩ := h17
    obtain ⟨hs1, hs2, hs3, hd, hu0, hcut⟩ := shlR i hi
    have hw37 : IntKind.i64.wrap (4 - (i : Int) + 1) = 4 - (i : Int) + 1 := wrap_i64 (by omega) (by omega)
    have hq := quo_nat m (UL.getD i (1, 0)).1 (by omega)
    refine pwp_skip ?_
    try simp only [thenK, scopeK]
    refine hN12 _ ?_
    clear hN12 N12
    refine pwp_then fun N16 hN16 => ?_
    refine pwp_block ?_
    refine pwp_then fun N17 hN17 => ?_
    refine pwp_reg fun R18 hR18 => ?_
    refine pops_mv (.inl rfl) rfl (by simp only [St.eval, upd_at, Nat.reduceEqDiff, if_true, if_false, e0_0, e0_4] <;> rfl) ?_
    refine pops_to rfl fun M hM => ?_
    simp only [pop, St.eval, constSlot, upd_at, Nat.reduceEqDiff, if_true, if_false, popBin, binK, intK, strK, eqK, eq_self, true_and, and_true, e0_0, e0_4, hs1]
    refine hM _ _ ?_
    clear hM M
    refine pops_to rfl fun M hM => ?_
    simp only [pop, St.eval, constSlot, upd_at, Nat.reduceEqDiff, if_true, if_false, popBin, binK, intK, strK, eqK, eq_self, true_and, and_true, e0_0, e0_4, hs3]
    refine ⟨hs2, hM _ _ ?_⟩
    clear hM M
    refine pops_mv (.inr rfl) rfl (by simp only [St.eval, upd_at, Nat.reduceEqDiff, if_true, if_false, e0_0, e0_4] <;> rfl) ?_
    refine pops_done (hR18 _ ?_)
    clear hR18 R18
    try simp only [thenK, scopeK]
    refine hN17 _ ?_
    clear hN17 N17
    refine pwp_then fun N19 hN19 => ?_
    refine pwp_reg fun R20 hR20 => ?_
    refine pops_mv (.inl rfl) rfl (by simp only [St.eval, upd_at, Nat.reduceEqDiff, if_true, if_false, e0_0, e0_4] <;> rfl) ?_
    refine pops_mv (.inl rfl) rfl (by simp only [St.eval, upd_at, Nat.reduceEqDiff, if_true, if_false, e0_0, e0_4] <;> rfl) ?_
    refine pops_to rfl fun M hM => ?_
    simp only [pop, St.eval, constSlot, upd_at, Nat.reduceEqDiff, if_true, if_false, popBin, binK, intK, strK, eqK, eq_self, true_and, and_true, e0_0, e0_4]
    refine ⟨by omega, hM _ _ ?_⟩
    clear hM M
    refine pops_to rfl fun M hM => ?_
    simp only [pop, St.eval, constSlot, upd_at, Nat.reduceEqDiff, if_true, if_false, popBin, binK, intK, strK, eqK, Tryd.underlying3, isPtr, eq_self, true_and, and_true, e0_0, e0_4]
    refine hM _ _ ?_
    clear hM M
    refine pops_done (hR20 _ ?_)
    clear hR20 R20
    try simp only [thenK, scopeK]
    refine hN19 _ ?_
    clear hN19 N19
    refine pwp_cond (by simp only [St.eval, upd_at, Nat.reduceEqDiff, if_true, if_false, e0_0, e0_4] <;> rfl) (fun c26 => ?_) (fun c26 => ?_)
    ·skip
     rw [rem0] at c26
     have h29 : 0 < m ∧ m % (UL.getD i (1, 0)).1 = 0 := ⟨hm0, of_decide_eq_true c26⟩
     have hend : prL UL m = Lib.decDigits (m / (UL.getD i (1, 0)).1) ++ [(UL.getD i (1, 0)).2] := hx0_1.symm.trans (prL_hit hd h29)
     refine pwp_then fun N21 hN21 => ?_
     refine pwp_dreg 11 mixed (by decide +kernel) fun R22 hR22 => ?_
     simp only [List.take_succ_cons, List.take_zero, List.drop_succ_cons, List.drop_zero]
     apply lex_to
     · rfl
     ·intro h' s' M hM
      simp only [pop, St.eval, constSlot, upd_at, Nat.reduceEqDiff, if_true, if_false, eq_self, true_and, and_true, str_list, str_size, str_app, str_cut, str_get, e0_0, e0_4, s'.1]
      exact hM _ (.refl _)
     apply lex_to
     · rfl
     ·intro h' s' M hM
      simp only [pop, St.eval, constSlot, upd_at, Nat.reduceEqDiff, if_true, if_false, eq_self, true_and, and_true, str_list, str_size, str_app, str_cut, str_get, e0_0, e0_4, s'.1]
      exact hM _ (.refl _)
     apply lex_to
     · rfl
     ·intro h' s' M hM
      simp only [pop, St.eval, constSlot, upd_at, Nat.reduceEqDiff, if_true, if_false, popBin, binK, intK, strK, eqK, eq_self, true_and, and_true, e0_0, e0_4, hq, s'.1]
      refine ⟨by omega, ?_⟩
      exact hM _ (.refl _)
     apply lex_to
     · rfl
     ·intro h' s' M hM
      simp only [pop, St.eval, constSlot, upd_at, Nat.reduceEqDiff, if_true, if_false, popCall, List.toList_toArray, List.map_cons, List.map_nil, svs, List.mapM_cons, List.mapM_nil, Option.bind_eq_bind, Option.bind_some, Option.pure_def, List.append_nil, List.cons_append, List.nil_append, str_size, e0_0, e0_4, s'.1]
      refine PFun.use (itoa_fun W0 hp (m / (UL.getD i (1, 0)).1) (by have := div_le' m (UL.getD i (1, 0)).1 (by omega); omega)) fun hp s => hM _ s
     apply lex_to
     · rfl
     ·intro h' s' M hM
      simp only [pop, St.eval, constSlot, upd_at, Nat.reduceEqDiff, if_true, if_false, eq_self, true_and, and_true, str_list, str_size, str_app, str_cut, str_get, e0_0, e0_4, s'.1]
      exact hM _ (.refl _)
     apply lex_to
     · rfl
     ·intro h' s' M hM
      simp only [pop, St.eval, constSlot, upd_at, Nat.reduceEqDiff, if_true, if_false, eq_self, true_and, and_true, str_list, str_size, str_app, str_cut, str_get, e0_0, e0_4, s'.1]
      exact hM _ (.refl _)
     apply lex_to
     · rfl
     ·intro h' s' M hM
      simp only [pop, St.eval, constSlot, upd_at, Nat.reduceEqDiff, if_true, if_false, popBin, binK, intK, strK, eqK, eq_self, true_and, and_true, e0_0, e0_4, hw37, s'.1]
      exact hM _ (.refl _)
     apply lex_to
     · rfl
     ·intro h' s' M hM
      simp only [pop, St.eval, constSlot, upd_at, Nat.reduceEqDiff, if_true, if_false, popSlice, boundOf, Option.map_none, Option.map_some, Tryd.underlying9, eq_self, true_and, and_true, str_list, str_size, str_app, str_cut, str_get, e0_0, e0_4, hcut, s'.1]
      refine ⟨by omega, by omega, by simp only [List.length_cons, List.length_nil]; omega, ?_⟩
      exact hM _ (.refl _)
     apply lex_to
     · rfl
     ·intro h' s' M hM
      simp only [pop, St.eval, constSlot, upd_at, Nat.reduceEqDiff, if_true, if_false, popBin, binK, intK, strK, eqK, eq_self, true_and, and_true, str_list, str_size, str_app, str_cut, str_get, e0_0, e0_4, s'.1]
      refine ⟨by have := dec_len20 (div_le' m (UL.getD i (1, 0)).1 (by omega)); simp only [List.length_append, List.length_cons, List.length_nil]; omega, ?_⟩
      exact hM _ (.refl _)
     apply lex_to
     · rfl
     ·intro h' s' M hM
      simp only [pop, St.eval, constSlot, upd_at, Nat.reduceEqDiff, if_true, if_false, eq_self, true_and, and_true, str_list, str_size, str_app, str_cut, str_get, e0_0, e0_4, s'.1]
      exact hM _ (.refl _)
     apply lex_to
     · rfl
     ·intro h' s' M hM
      simp only [pop, St.eval, constSlot, upd_at, Nat.reduceEqDiff, if_true, if_false, eq_self, true_and, and_true, str_list, str_size, str_app, str_cut, str_get, e0_0, e0_4, s'.1]
      exact hM _ (.refl _)
     refine lex_done fun hq sq => ?_
     replace sq := Same.trans sl0 sq
     refine pops_done (hR22 _ ?_)
     clear hR22 R22
     try simp only [thenK, scopeK]
     refine hN21 _ ?_
     clear hN21 N21
     refine pwp_ret ?_
     simp only [thenK, blockK, scopeK, bodyK]
     clear hN16 N16 hN9 N9
     refine ⟨_, rfl, endFun sq ?_⟩
     try simp only [upd_at, Nat.reduceEqDiff, if_true, if_false, e0_0, e0_4]
     all_goals
      rw [hs, hend]
    ·skip
     rw [rem0] at c26
     have h29 : ¬ (0 < m ∧ m % (UL.getD i (1, 0)).1 = 0) := fun h => of_decide_eq_false c26 h.2
     have hpass := prL_pass hd h29
     refine pwp_skip ?_
     try simp only [blockK, thenK, scopeK]
     try simp only [thenK, scopeK]
     refine hN16 _ ?_
     clear hN16 N16
     refine pwp_reg fun R23 hR23 => ?_
     refine pops_mv (.inl rfl) rfl (by simp only [St.eval, upd_at, Nat.reduceEqDiff, if_true, if_false, e0_0, e0_4] <;> rfl) ?_
     refine pops_to rfl fun M hM => ?_
     simp only [pop, St.eval, constSlot, upd_at, Nat.reduceEqDiff, if_true, if_false, popBin, binK, intK, strK, eqK, eq_self, true_and, and_true, e0_0, e0_4]
     refine hM _ _ ?_
     clear hM M
     refine pops_mv (.inr rfl) rfl (by simp only [St.eval, upd_at, Nat.reduceEqDiff, if_true, if_false, e0_0, e0_4] <;> rfl) ?_
     refine pops_done (hR23 _ ?_)
     clear hR23 R23
     try simp only [thenK, scopeK]
     exact ⟨_, by omega, _, .refl _ _, i + 1, rfl, by omega, hpass.symm.trans hx0_1, sl0, by simp only [upd_at, Nat.reduceEqDiff, if_true, if_false, e0_0, e0_4], by simp only [upd_at, Nat.reduceEqDiff, if_true, if_false, e0_4]; rw [wrap_i64 (by omega) (by omega)]; rw [show (4 - (i : Int) - 1) = 4 - ((i + 1 : Nat) : Int) by omega]⟩
   ·skip
    have hend : prL UL m = Lib.decDigits m := by
      rcases Nat.eq_zero_or_pos m with h0 | h0
      · subst h0; exact prL_zero _
      · have h4 : i = 4 := by
          have h5 : ¬ i < 4 := fun h => by simp only [Bool.and_eq_false_iff, decide_eq_false_iff_not] at c17; omega
          omega
        subst h4
        exact hx0_1.symm
    refine pwp_exit ?_
    try simp only [thenK, blockK, scopeK, if_true, Nat.reduceEqDiff, if_false]
    clear hN12 N12
    try simp only [blockK, scopeK, if_true, Nat.reduceEqDiff, if_false, thenK]
    try simp only [thenK, scopeK]
    refine hN9 _ ?_
    clear hN9 N9
    refine pwp_then fun N24 hN24 => ?_
    refine pwp_reg fun R25 hR25 => ?_
    refine pops_mv (.inl rfl) rfl (by simp only [St.eval, upd_at, Nat.reduceEqDiff, if_true, if_false, e0_0, e0_4] <;> rfl) ?_
    refine pops_to rfl fun M hM => ?_
    simp only [pop, St.eval, constSlot, upd_at, Nat.reduceEqDiff, if_true, if_false, popCall, List.toList_toArray, List.map_cons, List.map_nil, svs, List.mapM_cons, List.mapM_nil, Option.bind_eq_bind, Option.bind_some, Option.pure_def, List.append_nil, List.cons_append, List.nil_append, str_size, e0_0, e0_4]
    refine PFun.use (itoa_fun W0 hp m (by omega)) fun h1 s1 => hM _ _ ?_
    replace s1 := Same.trans sl0 s1
    clear hM M
    refine pops_mv (.inr rfl) rfl (by simp only [St.eval, upd_at, Nat.reduceEqDiff, if_true, if_false, e0_0, e0_4] <;> rfl) ?_
    refine pops_mv (.inr rfl) rfl (by simp only [St.eval, constSlot] <;> rfl) ?_
    refine pops_done (hR25 _ ?_)
    clear hR25 R25
    try simp only [thenK, scopeK]
    refine hN24 _ ?_
    clear hN24 N24
    refine pwp_ret ?_
    simp only [thenK, blockK, scopeK, bodyK]
    refine ⟨_, rfl, endFun s1 ?_⟩
    try simp only [upd_at, Nat.reduceEqDiff, if_true, if_false, e0_0, e0_4]
    all_goals
     rw [hs, hend]
end Go.Pw
