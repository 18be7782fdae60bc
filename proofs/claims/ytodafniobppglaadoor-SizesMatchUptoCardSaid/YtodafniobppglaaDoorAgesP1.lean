import Derived.Test.YtodafniobppglaaDoorAgesA2
namespace Go.Pw
open Go Go.RowKit Go.Proofs
set_option maxRecDepth 100000
set_option linter.unusedSimpArgs false
set_option linter.unusedVariables false

def ageS (n : Int) : List UInt8 × Int := if n < 0 ∨ 4611686018427387904 < n then ([], 7) else (ageP n.toNat, 0)
theorem ageS_ok (m : Nat) (h : m ≤ 4611686018427387904) : ageS (m : Int) = (ageP m, 0) := by
  rw [ageS, if_neg (by omega), Int.toNat_natCast]
abbrev UWR : List (List PV) := [[pstr [119]], [pstr [100]], [pstr [104]], [pstr [109]], [pstr [115]], [pstr [109, 115]], [pstr [117, 115]], [pstr [110, 115]]]
abbrev USR : List (List PV) := [[pint 604800000000000], [pint 86400000000000], [pint 3600000000000], [pint 60000000000], [pint 1000000000], [pint 1000000], [pint 1000], [pint 1]]
theorem pr_at {i : Nat} (h : i < 8) : ∃ w u, UR[i]? = some [pstr w, pint ((u : Nat) : Int)] ∧ UWR[i]? = some [pstr w] ∧ USR[i]? = some [pint ((u : Nat) : Int)] ∧ 0 < u ∧ u ≤ 604800000000000 ∧ w.length ≤ 2 ∧ UA.drop i = (w, u) :: UA.drop (i + 1) := by
  match i, h with
  | 0, _ => exact ⟨[119], 604800000000000, rfl, rfl, rfl, by decide, by decide, by decide, rfl⟩
  | 1, _ => exact ⟨[100], 86400000000000, rfl, rfl, rfl, by decide, by decide, by decide, rfl⟩
  | 2, _ => exact ⟨[104], 3600000000000, rfl, rfl, rfl, by decide, by decide, by decide, rfl⟩
  | 3, _ => exact ⟨[109], 60000000000, rfl, rfl, rfl, by decide, by decide, by decide, rfl⟩
  | 4, _ => exact ⟨[115], 1000000000, rfl, rfl, rfl, by decide, by decide, by decide, rfl⟩
  | 5, _ => exact ⟨[109, 115], 1000000, rfl, rfl, rfl, by decide, by decide, by decide, rfl⟩
  | 6, _ => exact ⟨[117, 115], 1000, rfl, rfl, rfl, by decide, by decide, by decide, rfl⟩
  | 7, _ => exact ⟨[110, 115], 1, rfl, rfl, rfl, by decide, by decide, by decide, rfl⟩
theorem dec_len : ∀ (k u : Nat), u < 10 ^ (k + 1) → (Lib.decDigits u).length ≤ k + 1
  | 0, u, h => by rw [Lib.decDigits, dif_pos (by simpa using h)]; exact Nat.le_refl _
  | k + 1, u, h => by
    by_cases h1 : u < 10
    · rw [Lib.decDigits, dif_pos h1]; simp
    · rw [Lib.decDigits, dif_neg h1, List.length_append]
      have := dec_len k (u / 10) (by rw [Nat.pow_succ] at h; omega)
      simp only [List.length_cons, List.length_nil]; omega
theorem dec_len20 {u : Nat} (h : u ≤ 4611686018427387904) : (Lib.decDigits u).length ≤ 19 := dec_len 18 u (by have : 10 ^ (18 + 1) = 10000000000000000000 := rfl; omega)
theorem rem_nat (a u : Nat) : Int.tmod (a : Int) (u : Int) = ((a % u : Nat) : Int) := rfl
theorem pr_take {m u : Nat} {w : List UInt8} {i : Nat} (hd : UA.drop i = (w, u) :: UA.drop (i + 1)) (h : 0 < m / u) : prA (UA.drop i) m = Lib.decDigits (m / u) ++ (w ++ prA (UA.drop (i + 1)) (m % u)) := by rw [hd, prA, if_pos h]
theorem pr_pass {m u : Nat} {w : List UInt8} {i : Nat} (hd : UA.drop i = (w, u) :: UA.drop (i + 1)) (h : ¬ 0 < m / u) : prA (UA.drop i) m = prA (UA.drop (i + 1)) m := by rw [hd, prA, if_neg h]
theorem pr_end {out : List UInt8} {m m0 : Nat} (h : out ++ prA (UA.drop 8) m = prA UA m0) : out = prA UA m0 := by
  rw [show UA.drop 8 = [] from rfl, prA, List.append_nil] at h; exact h
theorem div_le' (m u : Nat) (h : m ≤ 4611686018427387904) : m / u ≤ 4611686018427387904 := Nat.le_trans (Nat.div_le_self _ _) h
theorem nm21 : (Tryd.f21.name == "runtime.NumGoroutine") = false := by kernel_rfl
set_option maxHeartbeats 2000000 in
theorem printAge_fun (W0 : World) (hp : HasPow W0) (n : Int) :
  PFun Tryd.prog W0 21 [.one (pint n)] (.tup [.one (pstr (ageS n).1), .one (pint (ageS n).2)]) := by
 intro h
 refine pcalls1 (n := 41) Tryd.func21 rfl nm21 rfl fun hb => ?_
 refine pwp_then fun N1 hN1 => ?_
 refine pwp_reg fun R2 hR2 => ?_
 refine pops_mv (.inr rfl) rfl (by simp only [St.eval, constSlot] <;> rfl) ?_
 refine pops_mv (.inr rfl) rfl (by simp only [St.eval, constSlot] <;> rfl) ?_
 refine pops_done (hR2 _ ?_)
 clear hR2 R2
 try simp only [thenK, scopeK]
 refine hN1 _ ?_
 clear hN1 N1
 refine pwp_then fun N3 hN3 => ?_
 refine pwp_then fun N4 hN4 => ?_
 refine pwp_reg fun R5 hR5 => ?_
 refine pops_mv (.inl rfl) rfl (by simp only [St.eval, upd_at, Nat.reduceEqDiff, if_true, if_false] <;> rfl) ?_
 refine pops_to rfl fun M hM => ?_
 simp only [pop, St.eval, constSlot, upd_at, Nat.reduceEqDiff, if_true, if_false, popBin, binK, intK, strK, eqK, eq_self, true_and, and_true]
 refine hM _ _ ?_
 clear hM M
 refine pops_mv (.inl rfl) rfl (by simp only [St.eval, upd_at, Nat.reduceEqDiff, if_true, if_false] <;> rfl) ?_
 apply pops_or0 3 10 13 [11, 12] (by simp only [upd_at, Nat.reduceEqDiff, if_true, if_false] <;> rfl)
 ·skip
  intro g10_0 J6 hJ6
  simp only [List.take_succ_cons, List.take_zero]
  simp only [anyAt_cons, anyAt_nil] at hJ6
  refine pops_mvg (.inl rfl) rfl rfl (by simp only [upd_at, Nat.reduceEqDiff, if_true, if_false, g10_0]) (by simp only [St.eval, upd_at, Nat.reduceEqDiff, if_true, if_false, g10_0] <;> rfl) ?_
  refine pops_do rfl rfl (by simp only [upd_at, Nat.reduceEqDiff, if_true, if_false, g10_0]) fun M hM => ?_
  simp only [pop, St.eval, constSlot, upd_at, Nat.reduceEqDiff, if_true, if_false, popBin, binK, intK, strK, eqK, eq_self, true_and, and_true, g10_0]
  refine hM _ _ ?_
  clear hM M
  refine pops_to rfl fun M hM => ?_
  simp only [pop, St.eval, constSlot, upd_at, Nat.reduceEqDiff, if_true, if_false, popIf, true_implies, false_implies, Bool.true_eq_false, Bool.false_eq_true, reduceCtorEq, true_and, and_true, g10_0]
  refine hM _ _ ?_
  clear hM M
  exact pops_done (hJ6 _ (wk_same (wk_any ((wk_any (Wk.refl _ _))))))
 ·skip
  intro g10_0 J6 hJ6
  simp only [List.take_succ_cons, List.take_zero]
  simp only [anyAt_cons, anyAt_nil] at hJ6
  refine pops_off (b := true) rfl rfl (by simp only [upd_at, Nat.reduceEqDiff, if_true, if_false, g10_0]) (by decide) ?_
  refine pops_off (b := true) rfl rfl (by simp only [upd_at, Nat.reduceEqDiff, if_true, if_false, g10_0]) (by decide) ?_
  refine pops_to rfl fun M hM => ?_
  simp only [pop, St.eval, constSlot, upd_at, Nat.reduceEqDiff, if_true, if_false, popIf, true_implies, false_implies, Bool.true_eq_false, Bool.false_eq_true, reduceCtorEq, true_and, and_true, g10_0]
  refine hM _ _ ?_
  clear hM M
  exact pops_done (hJ6 _ (wk_same (wk_any ((wk_any (Wk.refl _ _))))))
 simp only [List.drop_succ_cons, List.drop_zero, anyAt_cons, anyAt_nil]
 refine pops_done (hR5 _ ?_)
 clear hR5 R5
 try simp only [thenK, scopeK]
 refine hN4 _ ?_
 clear hN4 N4
 refine pwp_cond (by simp only [St.eval, upd_at, Nat.reduceEqDiff, if_true, if_false] <;> rfl) (fun c13 => ?_) (fun c13 => ?_)
 ·skip
  have h : n < 0 ∨ 4611686018427387904 < n := by simpa using c13
  have hs : ageS n = ([], 7) := by rw [ageS, if_pos h]
  refine pwp_then fun N7 hN7 => ?_
  refine pwp_reg fun R8 hR8 => ?_
  refine pops_mv (.inr rfl) rfl (by simp only [St.eval, constSlot] <;> rfl) ?_
  refine pops_mv (.inr rfl) rfl (by simp only [St.eval, constSlot] <;> rfl) ?_
  refine pops_done (hR8 _ ?_)
  clear hR8 R8
  try simp only [thenK, scopeK]
  refine hN7 _ ?_
  clear hN7 N7
  refine pwp_ret ?_
  simp only [thenK, blockK, scopeK, bodyK]
  clear hN3 N3
  refine ⟨_, rfl, endFun (Same.refl _) ?_⟩
  try simp only [upd_at, Nat.reduceEqDiff, if_true, if_false]
  all_goals
   rw [hs]
 ·skip
  have hr : 0 ≤ n ∧ n ≤ 4611686018427387904 := by simp at c13; omega
  obtain ⟨m0, rfl⟩ : ∃ m0 : Nat, n = (m0 : Int) := ⟨n.toNat, by omega⟩
  have hs := ageS_ok m0 (by omega)
  refine pwp_skip ?_
  try simp only [thenK, scopeK]
  refine hN3 _ ?_
  clear hN3 N3
  refine pwp_then fun N9 hN9 => ?_
  refine pwp_then fun N10 hN10 => ?_
  refine pwp_reg fun R11 hR11 => ?_
  refine pops_mv (.inl rfl) rfl (by simp only [St.eval, upd_at, Nat.reduceEqDiff, if_true, if_false] <;> rfl) ?_
  refine pops_to rfl fun M hM => ?_
  simp only [pop, St.eval, constSlot, upd_at, Nat.reduceEqDiff, if_true, if_false, popBin, binK, intK, strK, eqK, Tryd.underlying3, isPtr, eq_self, true_and, and_true]
  refine hM _ _ ?_
  clear hM M
  refine pops_done (hR11 _ ?_)
  clear hR11 R11
  try simp only [thenK, scopeK]
  refine hN10 _ ?_
  clear hN10 N10
  refine pwp_cond (by simp only [St.eval, upd_at, Nat.reduceEqDiff, if_true, if_false] <;> rfl) (fun c15 => ?_) (fun c15 => ?_)
  ·skip
   have hz : m0 = 0 := by have := eq_of_beq c15; omega
   subst hz
   refine pwp_then fun N12 hN12 => ?_
   refine pwp_reg fun R13 hR13 => ?_
   refine pops_mv (.inr rfl) rfl (by simp only [St.eval, constSlot] <;> rfl) ?_
   refine pops_mv (.inr rfl) rfl (by simp only [St.eval, constSlot] <;> rfl) ?_
   refine pops_done (hR13 _ ?_)
   clear hR13 R13
   try simp only [thenK, scopeK]
   refine hN12 _ ?_
   clear hN12 N12
   refine pwp_ret ?_
   simp only [thenK, blockK, scopeK, bodyK]
   clear hN9 N9
   refine ⟨_, rfl, endFun (Same.refl _) ?_⟩
   try simp only [upd_at, Nat.reduceEqDiff, if_true, if_false]
   all_goals
    rw [hs]; rfl
  ·skip
   have hz : m0 ≠ 0 := by rintro rfl; simp at c15
   have hs2 : ageP m0 = prA UA m0 := by rw [ageP, if_neg hz]
   refine pwp_skip ?_
   try simp only [thenK, scopeK]
   refine hN9 _ ?_
   clear hN9 N9
   refine pwp_then fun N14 hN14 => ?_
   refine pwp_reg fun R15 hR15 => ?_
   refine pops_mv (.inr rfl) rfl (by simp only [St.eval, constSlot] <;> rfl) ?_
   refine pops_done (hR15 _ ?_)
   clear hR15 R15
   try simp only [thenK, scopeK]
   refine hN14 _ ?_
   clear hN14 N14
   refine pwp_then fun N16 hN16 => ?_
   refine pwp_then fun N17 hN17 => ?_
   refine pwp_reg fun R18 hR18 => ?_
   refine pops_to rfl fun M hM => ?_
   simp only [pop, St.eval, constSlot, upd_at, Nat.reduceEqDiff, if_true, if_false, popCall, List.toList_toArray, List.map_cons, List.map_nil, svs, List.mapM_cons, List.mapM_nil, Option.bind_eq_bind, Option.bind_some, Option.pure_def, List.append_nil, List.cons_append, List.nil_append, str_size]
   refine PFun.use (ageUnits_fun W0) fun h1 s1 => hM _ _ ?_
   replace s1 := Same.trans (Same.refl _) s1
   clear hM M
   refine pops_to rfl fun M hM => ?_
   simp only [pop, St.eval, constSlot, upd_at, Nat.reduceEqDiff, if_true, if_false, popCall, List.toList_toArray, List.map_cons, List.map_nil, popBuiltin, popLen, lenOfSlot, List.length_map, Tryd.underlying60, eq_self, true_and, and_true, str_list, str_size, str_app, str_cut, str_get]
   refine hM _ _ ?_
   clear hM M
   refine pops_mv (.inl rfl) rfl (by simp only [St.eval, constSlot] <;> rfl) ?_
   refine pops_done (hR18 _ ?_)
   clear hR18 R18
   try simp only [thenK, scopeK]
   refine hN17 _ ?_
   clear hN17 N17
   refine pwp_block ?_
   refine pwp_loop (fun k σ => ∃ (i : Nat), ∃ (m : Nat), ∃ (out : List UInt8), (k = 8 - i) ∧ (i ≤ 8) ∧ (m ≤ 4611686018427387904) ∧ (out ++ prA (UA.drop i) m = prA UA m0) ∧ (out.length ≤ i * 30) ∧ (Same h σ.hp) ∧ (σ.env 0 = .sv (.one (pint (m : Nat)))) ∧ (σ.env 4 = .sv (.one (pstr out))) ∧ (σ.env 18 = .sv (.one (pint (i : Nat)))) ∧ (σ.env 16 = .sv (.one (.ro true 2 UR))) ∧ (σ.env 17 = .sv (.one (pint (UR.length : Nat))))) _ ⟨_, .refl _ _, 0, m0, [], rfl, ?_⟩ ?_
   · exact ⟨Nat.zero_le _, by omega, rfl, Nat.zero_le _, s1, by simp only [upd_at, Nat.reduceEqDiff, if_true, if_false], by simp only [upd_at, Nat.reduceEqDiff, if_true, if_false], by simp only [upd_at, Nat.reduceEqDiff, if_true, if_false]; rfl, by simp only [upd_at, Nat.reduceEqDiff, if_true, if_false], by simp only [upd_at, Nat.reduceEqDiff, if_true, if_false] <;> rfl⟩
   ·rintro k ⟨e, hp0⟩ ⟨i, m, out, hk0, hx0_0, hx0_1, hx0_2, hx0_3, sl0, e0_0, e0_4, e0_18, e0_16, e0_17⟩
    simp only at sl0 e0_0 e0_4 e0_18 e0_16 e0_17
    refine pwp_then fun N19 hN19 => ?_
    refine pwp_reg fun R20 hR20 => ?_
    refine pops_to rfl fun M hM => ?_
    simp only [pop, St.eval, constSlot, upd_at, Nat.reduceEqDiff, if_true, if_false, popBin, binK, intK, strK, eqK, eq_self, true_and, and_true, e0_0, e0_4, e0_18, e0_16, e0_17]
    refine hM _ _ ?_
    clear hM M
    refine pops_done (hR20 _ ?_)
    clear hR20 R20
    try simp only [thenK, scopeK]
    refine hN19 _ ?_
    clear hN19 N19
    refine pwp_then fun N21 hN21 => ?_
    refine pwp_cond (by simp only [St.eval, upd_at, Nat.reduceEqDiff, if_true, if_false, e0_0, e0_4, e0_18, e0_16, e0_17] <;> rfl) (fun c19 => ?_) (fun c19 => ?_)
    ·skip
     have hi : i < 8 := by have := of_decide_eq_true c19; simp only [List.length_cons, List.length_nil] at this; omega
     obtain ⟨w, u, hget, hgw, hgu, h0u, hub, hwl, hd⟩ := pr_at hi
     have hq := quo_nat m u (by omega)
     have hrm := rem_nat m u
     refine pwp_skip ?_
     try simp only [thenK, scopeK]
     refine hN21 _ ?_
     clear hN21 N21
     refine pwp_then fun N22 hN22 => ?_
     refine pwp_block ?_
     refine pwp_then fun N23 hN23 => ?_
     refine pwp_reg fun R24 hR24 => ?_
     refine pops_to rfl fun M hM => ?_
     simp only [pop, St.eval, constSlot, upd_at, Nat.reduceEqDiff, if_true, if_false, popIndexAddr, Tryd.underlying60, sz68, eq_self, true_and, and_true, str_list, str_size, str_app, str_cut, str_get, e0_0, e0_4, e0_18, e0_16, e0_17, hget, Int.toNat_natCast]
     refine ⟨Int.natCast_nonneg _, hM _ _ ?_⟩
     clear hM M
     refine pops_to rfl fun M hM => ?_
     simp only [pop, St.eval, constSlot, upd_at, Nat.reduceEqDiff, if_true, if_false, List.length_cons, List.length_nil, Nat.zero_add, Nat.reduceAdd, Nat.reduceLeDiff, List.take_zero, List.take_succ_cons, List.take_nil, List.drop_succ_cons, List.drop_zero, List.drop_nil, List.nil_append, List.cons_append, List.append_nil, and_self, List.getElem?_cons_zero, List.getElem?_cons_succ, List.set_cons_zero, List.set_cons_succ, Option.some.injEq, popLoad, loadK, isAggD, List.drop_zero, List.getElem?_toArray, List.getElem?_cons_zero, List.getElem?_cons_succ, Bool.false_eq_true, Tryd.underlying68, sz68, eq_self, true_and, and_true, e0_0, e0_4, e0_18, e0_16, e0_17]
     refine hM _ _ ?_
     clear hM M
     refine pops_var (hpOk.same hb sl0) rfl ze68 (zs := [PV.val (.string ⟨#[]⟩), PV.val (.int .i64 0)]) (by kernel_rfl) (by simp) (by simp only [St.eval, constSlot, slotCells, upd_at, Nat.reduceEqDiff, if_true, if_false, e0_0, e0_4, e0_18, e0_16, e0_17] <;> rfl) (by rfl) (by exact Nat.succ_pos _) (by rw [sz68]; rfl) (fun hv25 sv25 => ?_)
     replace sv25 := Same.trans sl0 sv25
     refine pops_done (hR24 _ ?_)
     clear hR24 R24
     try simp only [thenK, scopeK]
     refine hN23 _ ?_
     clear hN23 N23
     refine pwp_then fun N26 hN26 => ?_
     refine pwp_reg fun R27 hR27 => ?_
     refine pops_mv (.inl rfl) rfl (by simp only [St.eval, upd_at, Nat.reduceEqDiff, if_true, if_false, e0_0, e0_4, e0_18, e0_16, e0_17] <;> rfl) ?_
     refine pops_to rfl fun M hM => ?_
     simp only [pop, St.eval, constSlot, upd_at, Nat.reduceEqDiff, if_true, if_false, popFieldAddr, fieldOf, List.drop_succ_cons, List.drop_zero, List.getElem?_toArray, List.getElem?_cons_zero, List.getElem?_cons_succ, Tryd.underlying68, sz3, e0_0, e0_4, e0_18, e0_16, e0_17]
     refine ⟨⟨_, rfl⟩, hM _ _ ?_⟩
     clear hM M
     refine pops_to rfl fun M hM => ?_
     simp only [pop, St.eval, constSlot, upd_at, Nat.reduceEqDiff, if_true, if_false, popLoad, loadK, isAggD, List.drop_zero, List.getElem?_toArray, List.getElem?_cons_zero, List.getElem?_cons_succ, Bool.false_eq_true, Tryd.underlying3, sz3, eq_self, true_and, and_true, e0_0, e0_4, e0_18, e0_16, e0_17]
     refine hM _ _ ?_
     clear hM M
     refine pops_to rfl fun M hM => ?_
     simp only [pop, St.eval, constSlot, upd_at, Nat.reduceEqDiff, if_true, if_false, popBin, binK, intK, strK, eqK, eq_self, true_and, and_true, e0_0, e0_4, e0_18, e0_16, e0_17, hq]
     refine ⟨by omega, hM _ _ ?_⟩
     clear hM M
     refine pops_mv (.inr rfl) rfl (by simp only [St.eval, upd_at, Nat.reduceEqDiff, if_true, if_false, e0_0, e0_4, e0_18, e0_16, e0_17] <;> rfl) ?_
     refine pops_done (hR27 _ ?_)
     clear hR27 R27
     try simp only [thenK, scopeK]
     refine hN26 _ ?_
     clear hN26 N26
     refine pwp_then fun N28 hN28 => ?_
     refine pwp_reg fun R29 hR29 => ?_
     refine pops_mv (.inl rfl) rfl (by simp only [St.eval, upd_at, Nat.reduceEqDiff, if_true, if_false, e0_0, e0_4, e0_18, e0_16, e0_17] <;> rfl) ?_
     refine pops_to rfl fun M hM => ?_
     simp only [pop, St.eval, constSlot, upd_at, Nat.reduceEqDiff, if_true, if_false, popBin, binK, intK, strK, eqK, eq_self, true_and, and_true, e0_0, e0_4, e0_18, e0_16, e0_17]
     refine hM _ _ ?_
     clear hM M
     refine pops_done (hR29 _ ?_)
     clear hR29 R29
     try simp only [thenK, scopeK]
     refine hN28 _ ?_
     clear hN28 N28
     refine pwp_cond (by simp only [St.eval, upd_at, Nat.reduceEqDiff, if_true, if_false, e0_0, e0_4, e0_18, e0_16, e0_17] <;> rfl) (fun c27 => ?_) (fun c27 => ?_)
     ·skip
      have hk : 0 < m / u := by have := of_decide_eq_true c27; omega
      have hpr := pr_take hd hk
      have hdl := dec_len20 (div_le' m u hx0_1)
      refine pwp_then fun N30 hN30 => ?_
      refine pwp_dreg 8 mixed (by decide +kernel) fun R31 hR31 => ?_
      simp only [List.take_succ_cons, List.take_zero, List.drop_succ_cons, List.drop_zero]
      apply lex_to
      · rfl
      ·intro h' s' M hM
       simp only [pop, St.eval, constSlot, upd_at, Nat.reduceEqDiff, if_true, if_false, eq_self, true_and, and_true, str_list, str_size, str_app, str_cut, str_get, e0_0, e0_4, e0_18, e0_16, e0_17, s'.1]
       exact hM _ (.refl _)
      apply lex_to
      · rfl
      ·intro h' s' M hM
       simp only [pop, St.eval, constSlot, upd_at, Nat.reduceEqDiff, if_true, if_false, eq_self, true_and, and_true, str_list, str_size, str_app, str_cut, str_get, e0_0, e0_4, e0_18, e0_16, e0_17, s'.1]
       exact hM _ (.refl _)
      apply lex_to
      · rfl
      ·intro h' s' M hM
       simp only [pop, St.eval, constSlot, upd_at, Nat.reduceEqDiff, if_true, if_false, popCall, List.toList_toArray, List.map_cons, List.map_nil, svs, List.mapM_cons, List.mapM_nil, Option.bind_eq_bind, Option.bind_some, Option.pure_def, List.append_nil, List.cons_append, List.nil_append, str_size, e0_0, e0_4, e0_18, e0_16, e0_17, s'.1]
       refine PFun.use (itoa_fun W0 hp (m / u) (by have := div_le' m u hx0_1; omega)) fun hp s => hM _ s
      apply lex_to
      · rfl
      ·intro h' s' M hM
       simp only [pop, St.eval, constSlot, upd_at, Nat.reduceEqDiff, if_true, if_false, popFieldAddr, fieldOf, List.drop_succ_cons, List.drop_zero, List.getElem?_toArray, List.getElem?_cons_zero, List.getElem?_cons_succ, Tryd.underlying68, sz9, e0_0, e0_4, e0_18, e0_16, e0_17, s'.1]
       exact ⟨⟨_, rfl⟩, hM _ (.refl _)⟩
      apply lex_to
      · rfl
      ·intro h' s' M hM
       simp only [pop, St.eval, constSlot, upd_at, Nat.reduceEqDiff, if_true, if_false, popLoad, loadK, isAggD, List.drop_zero, List.getElem?_toArray, List.getElem?_cons_zero, List.getElem?_cons_succ, Bool.false_eq_true, Tryd.underlying9, sz9, eq_self, true_and, and_true, e0_0, e0_4, e0_18, e0_16, e0_17, s'.1]
       exact hM _ (.refl _)
      apply lex_to
      · rfl
      ·intro h' s' M hM
       simp only [pop, St.eval, constSlot, upd_at, Nat.reduceEqDiff, if_true, if_false, popBin, binK, intK, strK, eqK, eq_self, true_and, and_true, str_list, str_size, str_app, str_cut, str_get, e0_0, e0_4, e0_18, e0_16, e0_17, s'.1]
       refine ⟨by first | omega | (simp only [List.length_append]; omega) | (simp; omega), ?_⟩
       exact hM _ (.refl _)
      apply lex_to
      · rfl
      ·intro h' s' M hM
       simp only [pop, St.eval, constSlot, upd_at, Nat.reduceEqDiff, if_true, if_false, popBin, binK, intK, strK, eqK, eq_self, true_and, and_true, str_list, str_size, str_app, str_cut, str_get, e0_0, e0_4, e0_18, e0_16, e0_17, s'.1]
       refine ⟨by first | omega | (simp only [List.length_append]; omega) | (simp; omega), ?_⟩
       exact hM _ (.refl _)
      apply lex_to
      · rfl
      ·intro h' s' M hM
       simp only [pop, St.eval, constSlot, upd_at, Nat.reduceEqDiff, if_true, if_false, eq_self, true_and, and_true, str_list, str_size, str_app, str_cut, str_get, e0_0, e0_4, e0_18, e0_16, e0_17, s'.1]
       exact hM _ (.refl _)
      refine lex_done fun hq sq => ?_
      replace sq := Same.trans sv25 sq
      refine pops_done (hR31 _ ?_)
      clear hR31 R31
      try simp only [thenK, scopeK]
      refine hN30 _ ?_
      clear hN30 N30
      refine pwp_reg fun R32 hR32 => ?_
      refine pops_mv (.inl rfl) rfl (by simp only [St.eval, upd_at, Nat.reduceEqDiff, if_true, if_false, e0_0, e0_4, e0_18, e0_16, e0_17] <;> rfl) ?_
      refine pops_to rfl fun M hM => ?_
      simp only [pop, St.eval, constSlot, upd_at, Nat.reduceEqDiff, if_true, if_false, popFieldAddr, fieldOf, List.drop_succ_cons, List.drop_zero, List.getElem?_toArray, List.getElem?_cons_zero, List.getElem?_cons_succ, Tryd.underlying68, sz3, e0_0, e0_4, e0_18, e0_16, e0_17]
      refine ⟨⟨_, rfl⟩, hM _ _ ?_⟩
      clear hM M
      refine pops_to rfl fun M hM => ?_
      simp only [pop, St.eval, constSlot, upd_at, Nat.reduceEqDiff, if_true, if_false, popLoad, loadK, isAggD, List.drop_zero, List.getElem?_toArray, List.getElem?_cons_zero, List.getElem?_cons_succ, Bool.false_eq_true, Tryd.underlying3, sz3, eq_self, true_and, and_true, e0_0, e0_4, e0_18, e0_16, e0_17]
      refine hM _ _ ?_
      clear hM M
      refine pops_to rfl fun M hM => ?_
      simp only [pop, St.eval, constSlot, upd_at, Nat.reduceEqDiff, if_true, if_false, popBin, binK, intK, strK, eqK, eq_self, true_and, and_true, e0_0, e0_4, e0_18, e0_16, e0_17, hrm]
      refine ⟨by omega, hM _ _ ?_⟩
      clear hM M
      refine pops_mv (.inr rfl) rfl (by simp only [St.eval, upd_at, Nat.reduceEqDiff, if_true, if_false, e0_0, e0_4, e0_18, e0_16, e0_17] <;> rfl) ?_
      refine pops_done (hR32 _ ?_)
      clear hR32 R32
      try simp only [blockK, thenK, scopeK]
      try simp only [thenK, scopeK]
      refine hN22 _ ?_
      clear hN22 N22
      refine pwp_reg fun R33 hR33 => ?_
      refine pops_to rfl fun M hM => ?_
      simp only [pop, St.eval, constSlot, upd_at, Nat.reduceEqDiff, if_true, if_false, popBin, binK, intK, strK, eqK, eq_self, true_and, and_true, e0_0, e0_4, e0_18, e0_16, e0_17]
      refine hM _ _ ?_
      clear hM M
      refine pops_mv (.inl rfl) rfl (by simp only [St.eval, upd_at, Nat.reduceEqDiff, if_true, if_false, e0_0, e0_4, e0_18, e0_16, e0_17] <;> rfl) ?_
      refine pops_done (hR33 _ ?_)
      clear hR33 R33
      try simp only [thenK, scopeK]
      exact ⟨_, by omega, _, .refl _ _, i + 1, m % u, out ++ (Lib.decDigits (m / u) ++ w), rfl, by omega, Nat.le_trans (Nat.mod_le _ _) hx0_1, by rw [List.append_assoc, List.append_assoc, ← hpr]; exact hx0_2, by simp only [List.length_append]; omega, sq, by simp only [upd_at, Nat.reduceEqDiff, if_true, if_false, e0_0, e0_4, e0_18, e0_16, e0_17], by simp only [upd_at, Nat.reduceEqDiff, if_true, if_false, e0_0, e0_4, e0_18, e0_16, e0_17], by simp only [upd_at, Nat.reduceEqDiff, if_true, if_false, e0_18]; rw [wrap_succ (by omega)], by simp only [upd_at, Nat.reduceEqDiff, if_true, if_false, e0_0, e0_4, e0_18, e0_16, e0_17], by simp only [upd_at, Nat.reduceEqDiff, if_true, if_false, e0_0, e0_4, e0_18, e0_16, e0_17]⟩
     ·skip
      have hk : ¬ 0 < m / u := by have := of_decide_eq_false c27; omega
      have hpr := pr_pass hd hk
      refine pwp_skip ?_
      try simp only [blockK, thenK, scopeK]
      try simp only [thenK, scopeK]
      refine hN22 _ ?_
      clear hN22 N22
      refine pwp_reg fun R34 hR34 => ?_
      refine pops_to rfl fun M hM => ?_
      simp only [pop, St.eval, constSlot, upd_at, Nat.reduceEqDiff, if_true, if_false, popBin, binK, intK, strK, eqK, eq_self, true_and, and_true, e0_0, e0_4, e0_18, e0_16, e0_17]
      refine hM _ _ ?_
      clear hM M
      refine pops_mv (.inl rfl) rfl (by simp only [St.eval, upd_at, Nat.reduceEqDiff, if_true, if_false, e0_0, e0_4, e0_18, e0_16, e0_17] <;> rfl) ?_
      refine pops_done (hR34 _ ?_)
      clear hR34 R34
      try simp only [thenK, scopeK]
      exact ⟨_, by omega, _, .refl _ _, i + 1, m, out, rfl, by omega, by omega, by rw [← hpr]; exact hx0_2, by omega, sv25, by simp only [upd_at, Nat.reduceEqDiff, if_true, if_false, e0_0, e0_4, e0_18, e0_16, e0_17], by simp only [upd_at, Nat.reduceEqDiff, if_true, if_false, e0_0, e0_4, e0_18, e0_16, e0_17], by simp only [upd_at, Nat.reduceEqDiff, if_true, if_false, e0_18]; rw [wrap_succ (by omega)], by simp only [upd_at, Nat.reduceEqDiff, if_true, if_false, e0_0, e0_4, e0_18, e0_16, e0_17], by simp only [upd_at, Nat.reduceEqDiff, if_true, if_false, e0_0, e0_4, e0_18, e0_16, e0_17]⟩
    ·skip
     have hi : i = 8 := by have := of_decide_eq_false c19; simp only [List.length_cons, List.length_nil] at this; omega
     subst hi
     have hend := pr_end hx0_2
     refine pwp_exit ?_
     try simp only [thenK, blockK, scopeK, if_true, Nat.reduceEqDiff, if_false]
     clear hN21 N21
     try simp only [blockK, scopeK, if_true, Nat.reduceEqDiff, if_false, thenK]
     try simp only [thenK, scopeK]
     refine hN16 _ ?_
     clear hN16 N16
     refine pwp_then fun N35 hN35 => ?_
     refine pwp_reg fun R36 hR36 => ?_
     refine pops_mv (.inl rfl) rfl (by simp only [St.eval, upd_at, Nat.reduceEqDiff, if_true, if_false, e0_0, e0_4, e0_18, e0_16, e0_17] <;> rfl) ?_
     refine pops_mv (.inr rfl) rfl (by simp only [St.eval, upd_at, Nat.reduceEqDiff, if_true, if_false, e0_0, e0_4, e0_18, e0_16, e0_17] <;> rfl) ?_
     refine pops_mv (.inr rfl) rfl (by simp only [St.eval, constSlot] <;> rfl) ?_
     refine pops_done (hR36 _ ?_)
     clear hR36 R36
     try simp only [thenK, scopeK]
     refine hN35 _ ?_
     clear hN35 N35
     refine pwp_ret ?_
     simp only [thenK, blockK, scopeK, bodyK]
     refine ⟨_, rfl, endFun sl0 ?_⟩
     try simp only [upd_at, Nat.reduceEqDiff, if_true, if_false, e0_0, e0_4, e0_18, e0_16, e0_17]
     all_goals
      rw [hs, hend, ← hs2]
end Go.Pw
