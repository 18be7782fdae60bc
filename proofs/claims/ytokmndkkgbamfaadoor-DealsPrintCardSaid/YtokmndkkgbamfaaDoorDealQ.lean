import Derived.Test.YtokmndkkgbamfaaDoorDealB
namespace Go.Pw
open Go Go.RowKit Go.Proofs
set_option maxRecDepth 100000
set_option linter.unusedSimpArgs false
set_option linter.unusedVariables false
theorem by5 : bytesOf' Tryd.prog 5 = some 1 := by kernel_rfl
theorem sz5 : szOf Tryd.prog 5 = some 1 := by kernel_rfl
theorem ze5 : zeroOf Tryd.prog 5 = some (.int .u8 0) := by kernel_rfl

def escB (c : UInt8) : Bool := decide (c < 32 ∨ c = 34 ∨ c = 92)
theorem special_prog (c : UInt8) : (((((c.toNat : Nat) : Int) == 34) || (((c.toNat : Nat) : Int) == 92)) || decide (((c.toNat : Nat) : Int) < 32)) = escB c := all_u8 (Q := fun c => (((((c.toNat : Nat) : Int) == 34) || (((c.toNat : Nat) : Int) == 92)) || decide (((c.toNat : Nat) : Int) < 32)) = escB c) (by decide +kernel) c
theorem special_ref (c : UInt8) : ((decide (((c.toNat : Nat) : Int) < 32) || (((c.toNat : Nat) : Int) == 34)) || (((c.toNat : Nat) : Int) == 92)) = escB c := all_u8 (Q := fun c => ((decide (((c.toNat : Nat) : Int) < 32) || (((c.toNat : Nat) : Int) == 34)) || (((c.toNat : Nat) : Int) == 92)) = escB c) (by decide +kernel) c
theorem qc_esc {c : UInt8} (h : escB c = true) : qc c = [92, 48 + c / 64, 48 + c / 8 % 8, 48 + c % 8] := by rw [qc, if_pos (of_decide_eq_true h)]
theorem qc_plain {c : UInt8} (h : escB c = false) : qc c = [c] := by rw [qc, if_neg (of_decide_eq_false h)]
theorem qc_len (c : UInt8) : (qc c).length ≤ 4 := by unfold qc; split <;> simp
theorem q1 (c : UInt8) : ((c.toNat : Nat) : Int).fdiv (2 ^ min (Int.toNat 6) IntKind.u8.bits) = (((c / 64).toNat : Nat) : Int) := all_u8 (Q := fun c => ((c.toNat : Nat) : Int).fdiv (2 ^ min (Int.toNat 6) IntKind.u8.bits) = (((c / 64).toNat : Nat) : Int)) (by decide +kernel) c
theorem q2 (c : UInt8) : IntKind.u8.wrap (48 + (((c / 64).toNat : Nat) : Int)) = (((48 + c / 64 : UInt8).toNat : Nat) : Int) := all_u8 (Q := fun c => IntKind.u8.wrap (48 + (((c / 64).toNat : Nat) : Int)) = (((48 + c / 64 : UInt8).toNat : Nat) : Int)) (by decide +kernel) c
theorem q3 (c : UInt8) : ((c.toNat : Nat) : Int).fdiv (2 ^ min (Int.toNat 3) IntKind.u8.bits) = (((c / 8).toNat : Nat) : Int) := all_u8 (Q := fun c => ((c.toNat : Nat) : Int).fdiv (2 ^ min (Int.toNat 3) IntKind.u8.bits) = (((c / 8).toNat : Nat) : Int)) (by decide +kernel) c
theorem q4 (c : UInt8) : IntKind.u8.wrap ((BitVec.ofInt IntKind.u8.bits (((c / 8).toNat : Nat) : Int) &&& BitVec.ofInt IntKind.u8.bits 7).toNat : Int) = (((c / 8 % 8).toNat : Nat) : Int) := all_u8 (Q := fun c => IntKind.u8.wrap ((BitVec.ofInt IntKind.u8.bits (((c / 8).toNat : Nat) : Int) &&& BitVec.ofInt IntKind.u8.bits 7).toNat : Int) = (((c / 8 % 8).toNat : Nat) : Int)) (by decide +kernel) c
theorem q5 (c : UInt8) : IntKind.u8.wrap (48 + (((c / 8 % 8).toNat : Nat) : Int)) = (((48 + c / 8 % 8 : UInt8).toNat : Nat) : Int) := all_u8 (Q := fun c => IntKind.u8.wrap (48 + (((c / 8 % 8).toNat : Nat) : Int)) = (((48 + c / 8 % 8 : UInt8).toNat : Nat) : Int)) (by decide +kernel) c
theorem q6 (c : UInt8) : IntKind.u8.wrap ((BitVec.ofInt IntKind.u8.bits ((c.toNat : Nat) : Int) &&& BitVec.ofInt IntKind.u8.bits 7).toNat : Int) = (((c % 8).toNat : Nat) : Int) := all_u8 (Q := fun c => IntKind.u8.wrap ((BitVec.ofInt IntKind.u8.bits ((c.toNat : Nat) : Int) &&& BitVec.ofInt IntKind.u8.bits 7).toNat : Int) = (((c % 8).toNat : Nat) : Int)) (by decide +kernel) c
theorem q7 (c : UInt8) : IntKind.u8.wrap (48 + (((c % 8).toNat : Nat) : Int)) = (((48 + c % 8 : UInt8).toNat : Nat) : Int) := all_u8 (Q := fun c => IntKind.u8.wrap (48 + (((c % 8).toNat : Nat) : Int)) = (((48 + c % 8 : UInt8).toNat : Nat) : Int)) (by decide +kernel) c
def qpre (s : List UInt8) (i : Nat) : List UInt8 := [34] ++ ((s.take i).map qc).flatten
theorem qpre_step {s : List UInt8} {i : Nat} {c : UInt8} (hx : s[i]? = some c) : qpre s (i + 1) = qpre s i ++ qc c := by
  unfold qpre
  rw [List.take_add_one, hx]
  simp
theorem flat_len4 : ∀ l : List UInt8, ((l.map qc).flatten).length ≤ 4 * l.length
  | [] => by simp
  | c :: l => by
    have := flat_len4 l
    have := qc_len c
    simp only [List.map_cons, List.flatten_cons, List.length_append, List.length_cons]
    omega
theorem qpre_len (s : List UInt8) (i : Nat) : (qpre s i).length ≤ 4 * s.length + 1 := by
  have := flat_len4 (s.take i)
  have h2 : (s.take i).length ≤ s.length := by rw [List.length_take]; omega
  unfold qpre
  rw [List.length_append, List.length_singleton]
  omega
theorem qpre_end {s : List UInt8} {i : Nat} (h : s.length ≤ i) : qpre s i ++ [34] = quoteB s := by
  unfold qpre quoteB
  rw [List.take_of_length_le h]
  simp
theorem quote_len (s : List UInt8) : (quoteB s).length ≤ 4 * s.length + 2 := by
  have := qpre_len s s.length
  rw [← qpre_end (Nat.le_refl _), List.length_append, List.length_singleton]
  omega
theorem nm38 : (Tryd.f38.name == "runtime.NumGoroutine") = false := by kernel_rfl
theorem special_fun (W0 : World) (c : UInt8) :
  PFun Tryd.prog W0 38 [.one (.val (.int .u8 c.toNat))] (.sv (.one (pbool (escB c)))) := by
 intro h
 refine pcalls1 (n := 13) Tryd.func38 rfl nm38 rfl fun hb => ?_
 refine pwp_then fun N1 hN1 => ?_
 refine pwp_reg fun R2 hR2 => ?_
 refine pops_mv (.inr rfl) rfl (by simp only [St.eval, constSlot] <;> rfl) ?_
 refine pops_done (hR2 _ ?_)
 clear hR2 R2
 try simp only [thenK, scopeK]
 refine hN1 _ ?_
 clear hN1 N1
 refine pwp_then fun N3 hN3 => ?_
 refine pwp_reg fun R4 hR4 => ?_
 refine pops_mv (.inl rfl) rfl (by simp only [St.eval, upd_at, Nat.reduceEqDiff, if_true, if_false] <;> rfl) ?_
 refine pops_to rfl fun M hM => ?_
 simp only [pop, St.eval, constSlot, upd_at, Nat.reduceEqDiff, if_true, if_false, popBin, binK, intK, strK, eqK, Tryd.underlying5, isPtr, eq_self, true_and, and_true]
 refine hM _ _ ?_
 clear hM M
 refine pops_mv (.inl rfl) rfl (by simp only [St.eval, upd_at, Nat.reduceEqDiff, if_true, if_false] <;> rfl) ?_
 apply pops_or0 3 5 8 [6, 7] (by simp only [upd_at, Nat.reduceEqDiff, if_true, if_false] <;> rfl)
 ·skip
  intro g5_0 J5 hJ5
  simp only [List.take_succ_cons, List.take_zero]
  simp only [anyAt_cons, anyAt_nil] at hJ5
  refine pops_mvg (.inl rfl) rfl rfl (by simp only [upd_at, Nat.reduceEqDiff, if_true, if_false, g5_0]) (by simp only [St.eval, upd_at, Nat.reduceEqDiff, if_true, if_false, g5_0] <;> rfl) ?_
  refine pops_do rfl rfl (by simp only [upd_at, Nat.reduceEqDiff, if_true, if_false, g5_0]) fun M hM => ?_
  simp only [pop, St.eval, constSlot, upd_at, Nat.reduceEqDiff, if_true, if_false, popBin, binK, intK, strK, eqK, Tryd.underlying5, isPtr, eq_self, true_and, and_true, g5_0]
  refine hM _ _ ?_
  clear hM M
  refine pops_to rfl fun M hM => ?_
  simp only [pop, St.eval, constSlot, upd_at, Nat.reduceEqDiff, if_true, if_false, popIf, true_implies, false_implies, Bool.true_eq_false, Bool.false_eq_true, reduceCtorEq, true_and, and_true, g5_0]
  refine hM _ _ ?_
  clear hM M
  exact pops_done (hJ5 _ (wk_same (wk_any ((wk_any (Wk.refl _ _))))))
 ·skip
  intro g5_0 J5 hJ5
  simp only [List.take_succ_cons, List.take_zero]
  simp only [anyAt_cons, anyAt_nil] at hJ5
  refine pops_off (b := true) rfl rfl (by simp only [upd_at, Nat.reduceEqDiff, if_true, if_false, g5_0]) (by decide) ?_
  refine pops_off (b := true) rfl rfl (by simp only [upd_at, Nat.reduceEqDiff, if_true, if_false, g5_0]) (by decide) ?_
  refine pops_to rfl fun M hM => ?_
  simp only [pop, St.eval, constSlot, upd_at, Nat.reduceEqDiff, if_true, if_false, popIf, true_implies, false_implies, Bool.true_eq_false, Bool.false_eq_true, reduceCtorEq, true_and, and_true, g5_0]
  refine hM _ _ ?_
  clear hM M
  exact pops_done (hJ5 _ (wk_same (wk_any ((wk_any (Wk.refl _ _))))))
 simp only [List.drop_succ_cons, List.drop_zero, anyAt_cons, anyAt_nil]
 refine pops_mv (.inl rfl) rfl (by simp only [St.eval, upd_at, Nat.reduceEqDiff, if_true, if_false] <;> rfl) ?_
 apply pops_or0 3 9 12 [10, 11] (by simp only [upd_at, Nat.reduceEqDiff, if_true, if_false] <;> rfl)
 ·skip
  intro g9_0 J6 hJ6
  simp only [List.take_succ_cons, List.take_zero]
  simp only [anyAt_cons, anyAt_nil] at hJ6
  refine pops_mvg (.inl rfl) rfl rfl (by simp only [upd_at, Nat.reduceEqDiff, if_true, if_false, g9_0]) (by simp only [St.eval, upd_at, Nat.reduceEqDiff, if_true, if_false, g9_0] <;> rfl) ?_
  refine pops_do rfl rfl (by simp only [upd_at, Nat.reduceEqDiff, if_true, if_false, g9_0]) fun M hM => ?_
  simp only [pop, St.eval, constSlot, upd_at, Nat.reduceEqDiff, if_true, if_false, popBin, binK, intK, strK, eqK, eq_self, true_and, and_true, g9_0]
  refine hM _ _ ?_
  clear hM M
  refine pops_to rfl fun M hM => ?_
  simp only [pop, St.eval, constSlot, upd_at, Nat.reduceEqDiff, if_true, if_false, popIf, true_implies, false_implies, Bool.true_eq_false, Bool.false_eq_true, reduceCtorEq, true_and, and_true, g9_0]
  refine hM _ _ ?_
  clear hM M
  exact pops_done (hJ6 _ (wk_same (wk_any ((wk_any (Wk.refl _ _))))))
 ·skip
  intro g9_0 J6 hJ6
  simp only [List.take_succ_cons, List.take_zero]
  simp only [anyAt_cons, anyAt_nil] at hJ6
  refine pops_off (b := true) rfl rfl (by simp only [upd_at, Nat.reduceEqDiff, if_true, if_false, g9_0]) (by decide) ?_
  refine pops_off (b := true) rfl rfl (by simp only [upd_at, Nat.reduceEqDiff, if_true, if_false, g9_0]) (by decide) ?_
  refine pops_to rfl fun M hM => ?_
  simp only [pop, St.eval, constSlot, upd_at, Nat.reduceEqDiff, if_true, if_false, popIf, true_implies, false_implies, Bool.true_eq_false, Bool.false_eq_true, reduceCtorEq, true_and, and_true, g9_0]
  refine hM _ _ ?_
  clear hM M
  exact pops_done (hJ6 _ (wk_same (wk_any ((wk_any (Wk.refl _ _))))))
 simp only [List.drop_succ_cons, List.drop_zero, anyAt_cons, anyAt_nil]
 refine pops_mv (.inr rfl) rfl (by simp only [St.eval, upd_at, Nat.reduceEqDiff, if_true, if_false] <;> rfl) ?_
 refine pops_done (hR4 _ ?_)
 clear hR4 R4
 try simp only [thenK, scopeK]
 refine hN3 _ ?_
 clear hN3 N3
 refine pwp_ret ?_
 simp only [thenK, blockK, scopeK, bodyK]
 refine ⟨_, rfl, endFun (Same.refl _) ?_⟩
 try simp only [upd_at, Nat.reduceEqDiff, if_true, if_false]
 all_goals
  rw [special_prog]

theorem nm31 : (Tryd.f31.name == "runtime.NumGoroutine") = false := by kernel_rfl
set_option maxHeartbeats 2000000 in
theorem quoted_fun (W0 : World) (s : List UInt8) (hs : s.length ≤ 4194304) :
  PFun Tryd.prog W0 31 [.one (pstr s)] (.sv (.one (pstr (quoteB s)))) := by
 intro h
 refine pcalls1 (n := 39) Tryd.func31 rfl nm31 rfl fun hb => ?_
 refine pwp_then fun N1 hN1 => ?_
 refine pwp_reg fun R2 hR2 => ?_
 refine pops_mv (.inr rfl) rfl (by simp only [St.eval, constSlot] <;> rfl) ?_
 refine pops_done (hR2 _ ?_)
 clear hR2 R2
 try simp only [thenK, scopeK]
 refine hN1 _ ?_
 clear hN1 N1
 refine pwp_then fun N3 hN3 => ?_
 refine pwp_reg fun R4 hR4 => ?_
 refine pops_to rfl fun M hM => ?_
 simp only [pop, St.eval, constSlot, upd_at, Nat.reduceEqDiff, if_true, if_false, popBuildSlice, slotCells, List.toList_toArray, List.map_cons, List.map_nil, List.mapM_cons, List.mapM_nil, Option.bind_eq_bind, Option.bind_some, Option.pure_def, Tryd.underlying43, sz5, ze5, by5, eq_self, true_and, and_true, str_list, str_size, str_app, str_cut, str_get]
 refine ⟨by decide, by decide, rfl, rfl, by simp, by decide, rfl, hM _ _ ?_⟩
 clear hM M
 refine pops_mv (.inr rfl) rfl (by simp only [St.eval, upd_at, Nat.reduceEqDiff, if_true, if_false] <;> rfl) ?_
 refine pops_done (hR4 _ ?_)
 clear hR4 R4
 try simp only [thenK, scopeK]
 refine hN3 _ ?_
 clear hN3 N3
 refine pwp_then fun N5 hN5 => ?_
 refine pwp_then fun N6 hN6 => ?_
 refine pwp_reg fun R7 hR7 => ?_
 refine pops_mv (.inl rfl) rfl (by simp only [St.eval, upd_at, Nat.reduceEqDiff, if_true, if_false] <;> rfl) ?_
 refine pops_to rfl fun M hM => ?_
 simp only [pop, St.eval, constSlot, upd_at, Nat.reduceEqDiff, if_true, if_false, popCall, List.toList_toArray, List.map_cons, List.map_nil, popBuiltin, popLen, lenOfSlot, List.length_map, Tryd.underlying9, eq_self, true_and, and_true, str_list, str_size, str_app, str_cut, str_get]
 refine hM _ _ ?_
 clear hM M
 refine pops_mv (.inl rfl) rfl (by simp only [St.eval, constSlot] <;> rfl) ?_
 refine pops_done (hR7 _ ?_)
 clear hR7 R7
 try simp only [thenK, scopeK]
 refine hN6 _ ?_
 clear hN6 N6
 refine pwp_block ?_
 refine pwp_loop (fun k σ => ∃ (i : Nat), ∃ (sl : Slot), (k = s.length - i) ∧ (i ≤ s.length) ∧ (Keeps h σ.hp ∧ RowL 5 1 h σ.hp sl ((qpre s i).map byteCell)) ∧ (σ.env 0 = .sv (.one (pstr s))) ∧ (σ.env 3 = sl) ∧ (σ.env 8 = .sv (.one (pint (s.length : Nat)))) ∧ (σ.env 9 = .sv (.one (pint (i : Nat))))) _ ⟨_, .refl _ _, 0, (.sv (.one (.ro true 1 [[.val (.int .u8 34)]]))), rfl, ?_⟩ ?_
 · exact ⟨Nat.zero_le _, ⟨Same.keeps (Same.refl _), .inl rfl⟩, by simp only [upd_at, Nat.reduceEqDiff, if_true, if_false], by simp only [upd_at, Nat.reduceEqDiff, if_true, if_false], by simp only [upd_at, Nat.reduceEqDiff, if_true, if_false], by simp only [upd_at, Nat.reduceEqDiff, if_true, if_false]; rfl⟩
 ·rintro k ⟨e, hp0⟩ ⟨i, sl, hk0, hx0_0, sl0, e0_0, e0_3, e0_8, e0_9⟩
  simp only at sl0 e0_0 e0_3 e0_8 e0_9
  obtain ⟨hk0, ho⟩ := sl0
  refine pwp_hpok fun hok0 => ?_
  simp only at hok0
  refine pwp_then fun N8 hN8 => ?_
  refine pwp_reg fun R9 hR9 => ?_
  refine pops_to rfl fun M hM => ?_
  simp only [pop, St.eval, constSlot, upd_at, Nat.reduceEqDiff, if_true, if_false, popBin, binK, intK, strK, eqK, eq_self, true_and, and_true, e0_0, e0_3, e0_8, e0_9]
  refine hM _ _ ?_
  clear hM M
  refine pops_done (hR9 _ ?_)
  clear hR9 R9
  try simp only [thenK, scopeK]
  refine hN8 _ ?_
  clear hN8 N8
  refine pwp_then fun N10 hN10 => ?_
  refine pwp_cond (by simp only [St.eval, upd_at, Nat.reduceEqDiff, if_true, if_false, e0_0, e0_3, e0_8, e0_9] <;> rfl) (fun c10 => ?_) (fun c10 => ?_)
  ·skip
   have hi : i < s.length := by have := of_decide_eq_true c10; omega
   obtain ⟨c, hx⟩ : ∃ c, s[i]? = some c := ⟨_, List.getElem?_eq_getElem hi⟩
   refine pwp_skip ?_
   try simp only [thenK, scopeK]
   refine hN10 _ ?_
   clear hN10 N10
   refine pwp_then fun N11 hN11 => ?_
   refine pwp_block ?_
   refine pwp_then fun N12 hN12 => ?_
   refine pwp_reg fun R13 hR13 => ?_
   refine pops_mv (.inl rfl) rfl (by simp only [St.eval, upd_at, Nat.reduceEqDiff, if_true, if_false, e0_0, e0_3, e0_8, e0_9] <;> rfl) ?_
   refine pops_mv (.inr rfl) rfl (by simp only [St.eval, upd_at, Nat.reduceEqDiff, if_true, if_false, e0_0, e0_3, e0_8, e0_9] <;> rfl) ?_
   refine pops_done (hR13 _ ?_)
   clear hR13 R13
   try simp only [thenK, scopeK]
   refine hN12 _ ?_
   clear hN12 N12
   refine pwp_then fun N14 hN14 => ?_
   refine pwp_reg fun R15 hR15 => ?_
   refine pops_mv (.inl rfl) rfl (by simp only [St.eval, upd_at, Nat.reduceEqDiff, if_true, if_false, e0_0, e0_3, e0_8, e0_9] <;> rfl) ?_
   refine pops_mv (.inl rfl) rfl (by simp only [St.eval, upd_at, Nat.reduceEqDiff, if_true, if_false, e0_0, e0_3, e0_8, e0_9] <;> rfl) ?_
   refine pops_to rfl fun M hM => ?_
   simp only [pop, St.eval, constSlot, upd_at, Nat.reduceEqDiff, if_true, if_false, popIndex, partK, Tryd.underlying9, eq_self, true_and, and_true, str_list, str_size, str_app, str_cut, str_get, e0_0, e0_3, e0_8, e0_9, hx, Int.toNat_natCast]
   refine ⟨Int.natCast_nonneg _, hM _ _ ?_⟩
   clear hM M
   refine pops_mv (.inr rfl) rfl (by simp only [St.eval, upd_at, Nat.reduceEqDiff, if_true, if_false, e0_0, e0_3, e0_8, e0_9] <;> rfl) ?_
   refine pops_done (hR15 _ ?_)
   clear hR15 R15
   try simp only [thenK, scopeK]
   refine hN14 _ ?_
   clear hN14 N14
   refine pwp_then fun N16 hN16 => ?_
   refine pwp_reg fun R17 hR17 => ?_
   refine pops_mv (.inl rfl) rfl (by simp only [St.eval, upd_at, Nat.reduceEqDiff, if_true, if_false, e0_0, e0_3, e0_8, e0_9] <;> rfl) ?_
   refine pops_to rfl fun M hM => ?_
   simp only [pop, St.eval, constSlot, upd_at, Nat.reduceEqDiff, if_true, if_false, popCall, List.toList_toArray, List.map_cons, List.map_nil, svs, List.mapM_cons, List.mapM_nil, Option.bind_eq_bind, Option.bind_some, Option.pure_def, List.append_nil, List.cons_append, List.nil_append, str_size, e0_0, e0_3, e0_8, e0_9]
   refine PFun.use (special_fun W0 c) fun h1 s1 => hM _ _ ?_
   replace s1 := Same.trans (Same.refl _) s1
   clear hM M
   refine pops_done (hR17 _ ?_)
   clear hR17 R17
   try simp only [thenK, scopeK]
   refine hN16 _ ?_
   clear hN16 N16
   refine pwp_cond (by simp only [St.eval, upd_at, Nat.reduceEqDiff, if_true, if_false, e0_0, e0_3, e0_8, e0_9] <;> rfl) (fun c16 => ?_) (fun c16 => ?_)
   ·skip
    have he := qc_esc c16
    refine pwp_reg fun R18 hR18 => ?_
    refine pops_mv (.inl rfl) rfl (by simp only [St.eval, upd_at, Nat.reduceEqDiff, if_true, if_false, e0_0, e0_3, e0_8, e0_9] <;> rfl) ?_
    refine pops_mv (.inl rfl) rfl (by simp only [St.eval, upd_at, Nat.reduceEqDiff, if_true, if_false, e0_0, e0_3, e0_8, e0_9] <;> rfl) ?_
    refine pops_to rfl fun M hM => ?_
    simp only [pop, St.eval, constSlot, upd_at, Nat.reduceEqDiff, if_true, if_false, popBin, binK, intK, strK, eqK, eq_self, true_and, and_true, e0_0, e0_3, e0_8, e0_9, q1]
    refine ⟨by decide, hM _ _ ?_⟩
    clear hM M
    refine pops_to rfl fun M hM => ?_
    simp only [pop, St.eval, constSlot, upd_at, Nat.reduceEqDiff, if_true, if_false, popBin, binK, intK, strK, eqK, eq_self, true_and, and_true, e0_0, e0_3, e0_8, e0_9, q2]
    refine hM _ _ ?_
    clear hM M
    refine pops_mv (.inl rfl) rfl (by simp only [St.eval, upd_at, Nat.reduceEqDiff, if_true, if_false, e0_0, e0_3, e0_8, e0_9] <;> rfl) ?_
    refine pops_to rfl fun M hM => ?_
    simp only [pop, St.eval, constSlot, upd_at, Nat.reduceEqDiff, if_true, if_false, popBin, binK, intK, strK, eqK, eq_self, true_and, and_true, e0_0, e0_3, e0_8, e0_9, q3]
    refine ⟨by decide, hM _ _ ?_⟩
    clear hM M
    refine pops_to rfl fun M hM => ?_
    simp only [pop, St.eval, constSlot, upd_at, Nat.reduceEqDiff, if_true, if_false, popBin, binK, intK, strK, eqK, eq_self, true_and, and_true, e0_0, e0_3, e0_8, e0_9, q4]
    refine hM _ _ ?_
    clear hM M
    refine pops_to rfl fun M hM => ?_
    simp only [pop, St.eval, constSlot, upd_at, Nat.reduceEqDiff, if_true, if_false, popBin, binK, intK, strK, eqK, eq_self, true_and, and_true, e0_0, e0_3, e0_8, e0_9, q5]
    refine hM _ _ ?_
    clear hM M
    refine pops_mv (.inl rfl) rfl (by simp only [St.eval, upd_at, Nat.reduceEqDiff, if_true, if_false, e0_0, e0_3, e0_8, e0_9] <;> rfl) ?_
    refine pops_to rfl fun M hM => ?_
    simp only [pop, St.eval, constSlot, upd_at, Nat.reduceEqDiff, if_true, if_false, popBin, binK, intK, strK, eqK, eq_self, true_and, and_true, e0_0, e0_3, e0_8, e0_9, q6]
    refine hM _ _ ?_
    clear hM M
    refine pops_to rfl fun M hM => ?_
    simp only [pop, St.eval, constSlot, upd_at, Nat.reduceEqDiff, if_true, if_false, popBin, binK, intK, strK, eqK, eq_self, true_and, and_true, e0_0, e0_3, e0_8, e0_9, q7]
    refine hM _ _ ?_
    clear hM M
    refine pops_to rfl fun M hM => ?_
    simp only [pop, St.eval, constSlot, upd_at, Nat.reduceEqDiff, if_true, if_false, popBuildSlice, slotCells, List.toList_toArray, List.map_cons, List.map_nil, List.mapM_cons, List.mapM_nil, Option.bind_eq_bind, Option.bind_some, Option.pure_def, Tryd.underlying43, sz5, ze5, by5, eq_self, true_and, and_true, str_list, str_size, str_app, str_cut, str_get, e0_0, e0_3, e0_8, e0_9]
    refine ⟨by decide, by decide, rfl, rfl, by simp, by decide, rfl, hM _ _ ?_⟩
    clear hM M
    refine pops_to rfl fun M hM => ?_
    simp only [pop, St.eval, constSlot, upd_at, Nat.reduceEqDiff, if_true, if_false, popCall, List.toList_toArray, List.map_cons, List.map_nil, popBuiltin, eq_self, true_and, and_true, str_list, str_size, str_app, str_cut, str_get, e0_0, e0_3, e0_8, e0_9]
    refine rowL_app (ys := ([92, 48 + c / 64, 48 + c / 8 % 8, 48 + c % 8] : List UInt8).map byteCell) hb Tryd.underlying43 sz5 by5 ze5 rfl (by decide) (ho.same s1) (hk0.trans (Same.keeps s1)) (by simp) rfl (.inr rfl) ⟨by have := qpre_len s i; simp; omega, by have := qpre_len s i; simp; omega⟩ fun sl2 hp2 ho2 hk2 => hM _ _ ?_
    clear hM M
    refine pops_mv (.inr rfl) rfl (by simp only [St.eval, upd_at, Nat.reduceEqDiff, if_true, if_false, e0_0, e0_3, e0_8, e0_9] <;> rfl) ?_
    refine pops_done (hR18 _ ?_)
    clear hR18 R18
    try simp only [blockK, thenK, scopeK]
    try simp only [thenK, scopeK]
    refine hN11 _ ?_
    clear hN11 N11
    refine pwp_reg fun R19 hR19 => ?_
    refine pops_to rfl fun M hM => ?_
    simp only [pop, St.eval, constSlot, upd_at, Nat.reduceEqDiff, if_true, if_false, popBin, binK, intK, strK, eqK, eq_self, true_and, and_true, e0_0, e0_3, e0_8, e0_9]
    refine hM _ _ ?_
    clear hM M
    refine pops_mv (.inl rfl) rfl (by simp only [St.eval, upd_at, Nat.reduceEqDiff, if_true, if_false, e0_0, e0_3, e0_8, e0_9] <;> rfl) ?_
    refine pops_done (hR19 _ ?_)
    clear hR19 R19
    try simp only [thenK, scopeK]
    exact ⟨_, by omega, _, .refl _ _, i + 1, sl2, rfl, by omega, ⟨hk2, .inr (by rw [qpre_step hx, he, List.map_append]; exact ho2)⟩, by simp only [upd_at, Nat.reduceEqDiff, if_true, if_false, e0_0, e0_3, e0_8, e0_9], by simp only [upd_at, Nat.reduceEqDiff, if_true, if_false, e0_0, e0_3, e0_8, e0_9], by simp only [upd_at, Nat.reduceEqDiff, if_true, if_false, e0_0, e0_3, e0_8, e0_9], by simp only [upd_at, Nat.reduceEqDiff, if_true, if_false, e0_9]; rw [wrap_succ (by omega)]⟩
   ·skip
    have he := qc_plain c16
    refine pwp_reg fun R20 hR20 => ?_
    refine pops_mv (.inl rfl) rfl (by simp only [St.eval, upd_at, Nat.reduceEqDiff, if_true, if_false, e0_0, e0_3, e0_8, e0_9] <;> rfl) ?_
    refine pops_mv (.inl rfl) rfl (by simp only [St.eval, upd_at, Nat.reduceEqDiff, if_true, if_false, e0_0, e0_3, e0_8, e0_9] <;> rfl) ?_
    refine pops_to rfl fun M hM => ?_
    simp only [pop, St.eval, constSlot, upd_at, Nat.reduceEqDiff, if_true, if_false, popBuildSlice, slotCells, List.toList_toArray, List.map_cons, List.map_nil, List.mapM_cons, List.mapM_nil, Option.bind_eq_bind, Option.bind_some, Option.pure_def, Tryd.underlying43, sz5, ze5, by5, eq_self, true_and, and_true, str_list, str_size, str_app, str_cut, str_get, e0_0, e0_3, e0_8, e0_9]
    refine ⟨by decide, by decide, rfl, rfl, by simp, by decide, rfl, hM _ _ ?_⟩
    clear hM M
    refine pops_to rfl fun M hM => ?_
    simp only [pop, St.eval, constSlot, upd_at, Nat.reduceEqDiff, if_true, if_false, popCall, List.toList_toArray, List.map_cons, List.map_nil, popBuiltin, eq_self, true_and, and_true, str_list, str_size, str_app, str_cut, str_get, e0_0, e0_3, e0_8, e0_9]
    refine rowL_app (ys := ([c] : List UInt8).map byteCell) hb Tryd.underlying43 sz5 by5 ze5 rfl (by decide) (ho.same s1) (hk0.trans (Same.keeps s1)) (by simp) rfl (.inr rfl) ⟨by have := qpre_len s i; simp; omega, by have := qpre_len s i; simp; omega⟩ fun sl2 hp2 ho2 hk2 => hM _ _ ?_
    clear hM M
    refine pops_mv (.inr rfl) rfl (by simp only [St.eval, upd_at, Nat.reduceEqDiff, if_true, if_false, e0_0, e0_3, e0_8, e0_9] <;> rfl) ?_
    refine pops_done (hR20 _ ?_)
    clear hR20 R20
    try simp only [blockK, thenK, scopeK]
    try simp only [thenK, scopeK]
    refine hN11 _ ?_
    clear hN11 N11
    refine pwp_reg fun R21 hR21 => ?_
    refine pops_to rfl fun M hM => ?_
    simp only [pop, St.eval, constSlot, upd_at, Nat.reduceEqDiff, if_true, if_false, popBin, binK, intK, strK, eqK, eq_self, true_and, and_true, e0_0, e0_3, e0_8, e0_9]
    refine hM _ _ ?_
    clear hM M
    refine pops_mv (.inl rfl) rfl (by simp only [St.eval, upd_at, Nat.reduceEqDiff, if_true, if_false, e0_0, e0_3, e0_8, e0_9] <;> rfl) ?_
    refine pops_done (hR21 _ ?_)
    clear hR21 R21
    try simp only [thenK, scopeK]
    exact ⟨_, by omega, _, .refl _ _, i + 1, sl2, rfl, by omega, ⟨hk2, .inr (by rw [qpre_step hx, he, List.map_append]; exact ho2)⟩, by simp only [upd_at, Nat.reduceEqDiff, if_true, if_false, e0_0, e0_3, e0_8, e0_9], by simp only [upd_at, Nat.reduceEqDiff, if_true, if_false, e0_0, e0_3, e0_8, e0_9], by simp only [upd_at, Nat.reduceEqDiff, if_true, if_false, e0_0, e0_3, e0_8, e0_9], by simp only [upd_at, Nat.reduceEqDiff, if_true, if_false, e0_9]; rw [wrap_succ (by omega)]⟩
  ·skip
   have hi := of_decide_eq_false c10
   refine pwp_exit ?_
   try simp only [thenK, blockK, scopeK, if_true, Nat.reduceEqDiff, if_false]
   clear hN10 N10
   try simp only [blockK, scopeK, if_true, Nat.reduceEqDiff, if_false, thenK]
   try simp only [thenK, scopeK]
   refine hN5 _ ?_
   clear hN5 N5
   refine pwp_then fun N22 hN22 => ?_
   refine pwp_reg fun R23 hR23 => ?_
   refine pops_mv (.inl rfl) rfl (by simp only [St.eval, upd_at, Nat.reduceEqDiff, if_true, if_false, e0_0, e0_3, e0_8, e0_9] <;> rfl) ?_
   refine pops_to rfl fun M hM => ?_
   simp only [pop, St.eval, constSlot, upd_at, Nat.reduceEqDiff, if_true, if_false, popBuildSlice, slotCells, List.toList_toArray, List.map_cons, List.map_nil, List.mapM_cons, List.mapM_nil, Option.bind_eq_bind, Option.bind_some, Option.pure_def, Tryd.underlying43, sz5, ze5, by5, eq_self, true_and, and_true, str_list, str_size, str_app, str_cut, str_get, e0_0, e0_3, e0_8, e0_9]
   refine ⟨by decide, by decide, rfl, rfl, by simp, by decide, rfl, hM _ _ ?_⟩
   clear hM M
   refine pops_to rfl fun M hM => ?_
   simp only [pop, St.eval, constSlot, upd_at, Nat.reduceEqDiff, if_true, if_false, popCall, List.toList_toArray, List.map_cons, List.map_nil, popBuiltin, eq_self, true_and, and_true, str_list, str_size, str_app, str_cut, str_get, e0_0, e0_3, e0_8, e0_9]
   refine rowL_app (ys := ([34] : List UInt8).map byteCell) hb Tryd.underlying43 sz5 by5 ze5 rfl (by decide) (ho.same (Same.refl _)) (hk0.trans (Same.keeps (Same.refl _))) (by simp) rfl (.inr rfl) ⟨by have := qpre_len s i; simp; omega, by have := qpre_len s i; simp; omega⟩ fun sl2 hp2 ho2 hk2 => hM _ _ ?_
   clear hM M
   refine pops_to rfl fun M hM => ?_
   simp only [pop, St.eval, constSlot, upd_at, Nat.reduceEqDiff, if_true, if_false, eq_self, true_and, and_true, str_list, str_size, str_app, str_cut, str_get, e0_0, e0_3, e0_8, e0_9]
   refine row_str Tryd.underlying9 Tryd.underlying43 Tryd.underlying5 (by rw [← List.map_append] at ho2; exact ho2) (hM _ _ ?_)
   clear hM M
   refine pops_mv (.inr rfl) rfl (by simp only [St.eval, upd_at, Nat.reduceEqDiff, if_true, if_false, e0_0, e0_3, e0_8, e0_9] <;> rfl) ?_
   refine pops_done (hR23 _ ?_)
   clear hR23 R23
   try simp only [thenK, scopeK]
   refine hN22 _ ?_
   clear hN22 N22
   refine pwp_ret ?_
   simp only [thenK, blockK, scopeK, bodyK]
   exact ⟨_, rfl, by rw [← qpre_end (show s.length ≤ i by omega)]; exact endKeeps1 hk2 rfl⟩

theorem nm20 : (Tryd.f20.name == "runtime.NumGoroutine") = false := by kernel_rfl
set_option maxHeartbeats 2000000 in
theorem quotePath_fun (W0 : World) (s : List UInt8) (hs : s.length ≤ 4194304) :
  PFun Tryd.prog W0 20 [.one (pstr s)] (.sv (.one (pstr (quoteB s)))) := by
 intro h
 refine pcalls1 (n := 47) Tryd.func20 rfl nm20 rfl fun hb => ?_
 refine pwp_then fun N1 hN1 => ?_
 refine pwp_reg fun R2 hR2 => ?_
 refine pops_mv (.inr rfl) rfl (by simp only [St.eval, constSlot] <;> rfl) ?_
 refine pops_done (hR2 _ ?_)
 clear hR2 R2
 try simp only [thenK, scopeK]
 refine hN1 _ ?_
 clear hN1 N1
 refine pwp_then fun N3 hN3 => ?_
 refine pwp_reg fun R4 hR4 => ?_
 refine pops_to rfl fun M hM => ?_
 simp only [pop, St.eval, constSlot, upd_at, Nat.reduceEqDiff, if_true, if_false, popBuildSlice, slotCells, List.toList_toArray, List.map_cons, List.map_nil, List.mapM_cons, List.mapM_nil, Option.bind_eq_bind, Option.bind_some, Option.pure_def, Tryd.underlying43, sz5, ze5, by5, eq_self, true_and, and_true, str_list, str_size, str_app, str_cut, str_get]
 refine ⟨by decide, by decide, rfl, rfl, by simp, by decide, rfl, hM _ _ ?_⟩
 clear hM M
 refine pops_mv (.inr rfl) rfl (by simp only [St.eval, upd_at, Nat.reduceEqDiff, if_true, if_false] <;> rfl) ?_
 refine pops_done (hR4 _ ?_)
 clear hR4 R4
 try simp only [thenK, scopeK]
 refine hN3 _ ?_
 clear hN3 N3
 refine pwp_then fun N5 hN5 => ?_
 refine pwp_then fun N6 hN6 => ?_
 refine pwp_reg fun R7 hR7 => ?_
 refine pops_mv (.inl rfl) rfl (by simp only [St.eval, upd_at, Nat.reduceEqDiff, if_true, if_false] <;> rfl) ?_
 refine pops_to rfl fun M hM => ?_
 simp only [pop, St.eval, constSlot, upd_at, Nat.reduceEqDiff, if_true, if_false, popCall, List.toList_toArray, List.map_cons, List.map_nil, popBuiltin, popLen, lenOfSlot, List.length_map, Tryd.underlying9, eq_self, true_and, and_true, str_list, str_size, str_app, str_cut, str_get]
 refine hM _ _ ?_
 clear hM M
 refine pops_mv (.inl rfl) rfl (by simp only [St.eval, constSlot] <;> rfl) ?_
 refine pops_done (hR7 _ ?_)
 clear hR7 R7
 try simp only [thenK, scopeK]
 refine hN6 _ ?_
 clear hN6 N6
 refine pwp_block ?_
 refine pwp_loop (fun k σ => ∃ (i : Nat), ∃ (sl : Slot), (k = s.length - i) ∧ (i ≤ s.length) ∧ (Keeps h σ.hp ∧ RowL 5 1 h σ.hp sl ((qpre s i).map byteCell)) ∧ (σ.env 0 = .sv (.one (pstr s))) ∧ (σ.env 3 = sl) ∧ (σ.env 8 = .sv (.one (pint (s.length : Nat)))) ∧ (σ.env 9 = .sv (.one (pint (i : Nat))))) _ ⟨_, .refl _ _, 0, (.sv (.one (.ro true 1 [[.val (.int .u8 34)]]))), rfl, ?_⟩ ?_
 · exact ⟨Nat.zero_le _, ⟨Same.keeps (Same.refl _), .inl rfl⟩, by simp only [upd_at, Nat.reduceEqDiff, if_true, if_false], by simp only [upd_at, Nat.reduceEqDiff, if_true, if_false], by simp only [upd_at, Nat.reduceEqDiff, if_true, if_false], by simp only [upd_at, Nat.reduceEqDiff, if_true, if_false]; rfl⟩
 ·rintro k ⟨e, hp0⟩ ⟨i, sl, hk0, hx0_0, sl0, e0_0, e0_3, e0_8, e0_9⟩
  simp only at sl0 e0_0 e0_3 e0_8 e0_9
  obtain ⟨hk0, ho⟩ := sl0
  refine pwp_hpok fun hok0 => ?_
  simp only at hok0
  refine pwp_then fun N8 hN8 => ?_
  refine pwp_reg fun R9 hR9 => ?_
  refine pops_to rfl fun M hM => ?_
  simp only [pop, St.eval, constSlot, upd_at, Nat.reduceEqDiff, if_true, if_false, popBin, binK, intK, strK, eqK, eq_self, true_and, and_true, e0_0, e0_3, e0_8, e0_9]
  refine hM _ _ ?_
  clear hM M
  refine pops_done (hR9 _ ?_)
  clear hR9 R9
  try simp only [thenK, scopeK]
  refine hN8 _ ?_
  clear hN8 N8
  refine pwp_then fun N10 hN10 => ?_
  refine pwp_cond (by simp only [St.eval, upd_at, Nat.reduceEqDiff, if_true, if_false, e0_0, e0_3, e0_8, e0_9] <;> rfl) (fun c10 => ?_) (fun c10 => ?_)
  ·skip
   have hi : i < s.length := by have := of_decide_eq_true c10; omega
   obtain ⟨c, hx⟩ : ∃ c, s[i]? = some c := ⟨_, List.getElem?_eq_getElem hi⟩
   refine pwp_skip ?_
   try simp only [thenK, scopeK]
   refine hN10 _ ?_
   clear hN10 N10
   refine pwp_then fun N11 hN11 => ?_
   refine pwp_block ?_
   refine pwp_then fun N12 hN12 => ?_
   refine pwp_reg fun R13 hR13 => ?_
   refine pops_mv (.inl rfl) rfl (by simp only [St.eval, upd_at, Nat.reduceEqDiff, if_true, if_false, e0_0, e0_3, e0_8, e0_9] <;> rfl) ?_
   refine pops_mv (.inr rfl) rfl (by simp only [St.eval, upd_at, Nat.reduceEqDiff, if_true, if_false, e0_0, e0_3, e0_8, e0_9] <;> rfl) ?_
   refine pops_done (hR13 _ ?_)
   clear hR13 R13
   try simp only [thenK, scopeK]
   refine hN12 _ ?_
   clear hN12 N12
   refine pwp_then fun N14 hN14 => ?_
   refine pwp_reg fun R15 hR15 => ?_
   refine pops_mv (.inl rfl) rfl (by simp only [St.eval, upd_at, Nat.reduceEqDiff, if_true, if_false, e0_0, e0_3, e0_8, e0_9] <;> rfl) ?_
   refine pops_mv (.inl rfl) rfl (by simp only [St.eval, upd_at, Nat.reduceEqDiff, if_true, if_false, e0_0, e0_3, e0_8, e0_9] <;> rfl) ?_
   refine pops_to rfl fun M hM => ?_
   simp only [pop, St.eval, constSlot, upd_at, Nat.reduceEqDiff, if_true, if_false, popIndex, partK, Tryd.underlying9, eq_self, true_and, and_true, str_list, str_size, str_app, str_cut, str_get, e0_0, e0_3, e0_8, e0_9, hx, Int.toNat_natCast]
   refine ⟨Int.natCast_nonneg _, hM _ _ ?_⟩
   clear hM M
   refine pops_mv (.inr rfl) rfl (by simp only [St.eval, upd_at, Nat.reduceEqDiff, if_true, if_false, e0_0, e0_3, e0_8, e0_9] <;> rfl) ?_
   refine pops_done (hR15 _ ?_)
   clear hR15 R15
   try simp only [thenK, scopeK]
   refine hN14 _ ?_
   clear hN14 N14
   refine pwp_then fun N16 hN16 => ?_
   refine pwp_reg fun R17 hR17 => ?_
   refine pops_mv (.inl rfl) rfl (by simp only [St.eval, upd_at, Nat.reduceEqDiff, if_true, if_false, e0_0, e0_3, e0_8, e0_9] <;> rfl) ?_
   refine pops_to rfl fun M hM => ?_
   simp only [pop, St.eval, constSlot, upd_at, Nat.reduceEqDiff, if_true, if_false, popBin, binK, intK, strK, eqK, eq_self, true_and, and_true, e0_0, e0_3, e0_8, e0_9]
   refine hM _ _ ?_
   clear hM M
   refine pops_mv (.inl rfl) rfl (by simp only [St.eval, upd_at, Nat.reduceEqDiff, if_true, if_false, e0_0, e0_3, e0_8, e0_9] <;> rfl) ?_
   apply pops_or0 3 17 20 [18, 19] (by simp only [upd_at, Nat.reduceEqDiff, if_true, if_false, e0_0, e0_3, e0_8, e0_9] <;> rfl)
   ·skip
    intro g17_0 J18 hJ18
    simp only [List.take_succ_cons, List.take_zero]
    simp only [anyAt_cons, anyAt_nil] at hJ18
    refine pops_mvg (.inl rfl) rfl rfl (by simp only [upd_at, Nat.reduceEqDiff, if_true, if_false, e0_0, e0_3, e0_8, e0_9, g17_0]) (by simp only [St.eval, upd_at, Nat.reduceEqDiff, if_true, if_false, e0_0, e0_3, e0_8, e0_9, g17_0] <;> rfl) ?_
    refine pops_do rfl rfl (by simp only [upd_at, Nat.reduceEqDiff, if_true, if_false, e0_0, e0_3, e0_8, e0_9, g17_0]) fun M hM => ?_
    simp only [pop, St.eval, constSlot, upd_at, Nat.reduceEqDiff, if_true, if_false, popBin, binK, intK, strK, eqK, Tryd.underlying5, isPtr, eq_self, true_and, and_true, e0_0, e0_3, e0_8, e0_9, g17_0]
    refine hM _ _ ?_
    clear hM M
    refine pops_to rfl fun M hM => ?_
    simp only [pop, St.eval, constSlot, upd_at, Nat.reduceEqDiff, if_true, if_false, popIf, true_implies, false_implies, Bool.true_eq_false, Bool.false_eq_true, reduceCtorEq, true_and, and_true, e0_0, e0_3, e0_8, e0_9, g17_0]
    refine hM _ _ ?_
    clear hM M
    exact pops_done (hJ18 _ (wk_same (wk_any ((wk_any (Wk.refl _ _))))))
   ·skip
    intro g17_0 J18 hJ18
    simp only [List.take_succ_cons, List.take_zero]
    simp only [anyAt_cons, anyAt_nil] at hJ18
    refine pops_off (b := true) rfl rfl (by simp only [upd_at, Nat.reduceEqDiff, if_true, if_false, e0_0, e0_3, e0_8, e0_9, g17_0]) (by decide) ?_
    refine pops_off (b := true) rfl rfl (by simp only [upd_at, Nat.reduceEqDiff, if_true, if_false, e0_0, e0_3, e0_8, e0_9, g17_0]) (by decide) ?_
    refine pops_to rfl fun M hM => ?_
    simp only [pop, St.eval, constSlot, upd_at, Nat.reduceEqDiff, if_true, if_false, popIf, true_implies, false_implies, Bool.true_eq_false, Bool.false_eq_true, reduceCtorEq, true_and, and_true, e0_0, e0_3, e0_8, e0_9, g17_0]
    refine hM _ _ ?_
    clear hM M
    exact pops_done (hJ18 _ (wk_same (wk_any ((wk_any (Wk.refl _ _))))))
   simp only [List.drop_succ_cons, List.drop_zero, anyAt_cons, anyAt_nil]
   refine pops_mv (.inl rfl) rfl (by simp only [St.eval, upd_at, Nat.reduceEqDiff, if_true, if_false, e0_0, e0_3, e0_8, e0_9] <;> rfl) ?_
   apply pops_or0 3 21 24 [22, 23] (by simp only [upd_at, Nat.reduceEqDiff, if_true, if_false, e0_0, e0_3, e0_8, e0_9] <;> rfl)
   ·skip
    intro g21_0 J19 hJ19
    simp only [List.take_succ_cons, List.take_zero]
    simp only [anyAt_cons, anyAt_nil] at hJ19
    refine pops_mvg (.inl rfl) rfl rfl (by simp only [upd_at, Nat.reduceEqDiff, if_true, if_false, e0_0, e0_3, e0_8, e0_9, g21_0]) (by simp only [St.eval, upd_at, Nat.reduceEqDiff, if_true, if_false, e0_0, e0_3, e0_8, e0_9, g21_0] <;> rfl) ?_
    refine pops_do rfl rfl (by simp only [upd_at, Nat.reduceEqDiff, if_true, if_false, e0_0, e0_3, e0_8, e0_9, g21_0]) fun M hM => ?_
    simp only [pop, St.eval, constSlot, upd_at, Nat.reduceEqDiff, if_true, if_false, popBin, binK, intK, strK, eqK, Tryd.underlying5, isPtr, eq_self, true_and, and_true, e0_0, e0_3, e0_8, e0_9, g21_0]
    refine hM _ _ ?_
    clear hM M
    refine pops_to rfl fun M hM => ?_
    simp only [pop, St.eval, constSlot, upd_at, Nat.reduceEqDiff, if_true, if_false, popIf, true_implies, false_implies, Bool.true_eq_false, Bool.false_eq_true, reduceCtorEq, true_and, and_true, e0_0, e0_3, e0_8, e0_9, g21_0]
    refine hM _ _ ?_
    clear hM M
    exact pops_done (hJ19 _ (wk_same (wk_any ((wk_any (Wk.refl _ _))))))
   ·skip
    intro g21_0 J19 hJ19
    simp only [List.take_succ_cons, List.take_zero]
    simp only [anyAt_cons, anyAt_nil] at hJ19
    refine pops_off (b := true) rfl rfl (by simp only [upd_at, Nat.reduceEqDiff, if_true, if_false, e0_0, e0_3, e0_8, e0_9, g21_0]) (by decide) ?_
    refine pops_off (b := true) rfl rfl (by simp only [upd_at, Nat.reduceEqDiff, if_true, if_false, e0_0, e0_3, e0_8, e0_9, g21_0]) (by decide) ?_
    refine pops_to rfl fun M hM => ?_
    simp only [pop, St.eval, constSlot, upd_at, Nat.reduceEqDiff, if_true, if_false, popIf, true_implies, false_implies, Bool.true_eq_false, Bool.false_eq_true, reduceCtorEq, true_and, and_true, e0_0, e0_3, e0_8, e0_9, g21_0]
    refine hM _ _ ?_
    clear hM M
    exact pops_done (hJ19 _ (wk_same (wk_any ((wk_any (Wk.refl _ _))))))
   simp only [List.drop_succ_cons, List.drop_zero, anyAt_cons, anyAt_nil]
   refine pops_done (hR17 _ ?_)
   clear hR17 R17
   try simp only [thenK, scopeK]
   refine hN16 _ ?_
   clear hN16 N16
   refine pwp_cond (by simp only [St.eval, upd_at, Nat.reduceEqDiff, if_true, if_false, e0_0, e0_3, e0_8, e0_9] <;> rfl) (fun c24 => ?_) (fun c24 => ?_)
   ·skip
    rw [special_ref] at c24
    have he := qc_esc c24
    refine pwp_reg fun R20 hR20 => ?_
    refine pops_mv (.inl rfl) rfl (by simp only [St.eval, upd_at, Nat.reduceEqDiff, if_true, if_false, e0_0, e0_3, e0_8, e0_9] <;> rfl) ?_
    refine pops_mv (.inl rfl) rfl (by simp only [St.eval, upd_at, Nat.reduceEqDiff, if_true, if_false, e0_0, e0_3, e0_8, e0_9] <;> rfl) ?_
    refine pops_to rfl fun M hM => ?_
    simp only [pop, St.eval, constSlot, upd_at, Nat.reduceEqDiff, if_true, if_false, popBin, binK, intK, strK, eqK, eq_self, true_and, and_true, e0_0, e0_3, e0_8, e0_9, q1]
    refine ⟨by decide, hM _ _ ?_⟩
    clear hM M
    refine pops_to rfl fun M hM => ?_
    simp only [pop, St.eval, constSlot, upd_at, Nat.reduceEqDiff, if_true, if_false, popBin, binK, intK, strK, eqK, eq_self, true_and, and_true, e0_0, e0_3, e0_8, e0_9, q2]
    refine hM _ _ ?_
    clear hM M
    refine pops_mv (.inl rfl) rfl (by simp only [St.eval, upd_at, Nat.reduceEqDiff, if_true, if_false, e0_0, e0_3, e0_8, e0_9] <;> rfl) ?_
    refine pops_to rfl fun M hM => ?_
    simp only [pop, St.eval, constSlot, upd_at, Nat.reduceEqDiff, if_true, if_false, popBin, binK, intK, strK, eqK, eq_self, true_and, and_true, e0_0, e0_3, e0_8, e0_9, q3]
    refine ⟨by decide, hM _ _ ?_⟩
    clear hM M
    refine pops_to rfl fun M hM => ?_
    simp only [pop, St.eval, constSlot, upd_at, Nat.reduceEqDiff, if_true, if_false, popBin, binK, intK, strK, eqK, eq_self, true_and, and_true, e0_0, e0_3, e0_8, e0_9, q4]
    refine hM _ _ ?_
    clear hM M
    refine pops_to rfl fun M hM => ?_
    simp only [pop, St.eval, constSlot, upd_at, Nat.reduceEqDiff, if_true, if_false, popBin, binK, intK, strK, eqK, eq_self, true_and, and_true, e0_0, e0_3, e0_8, e0_9, q5]
    refine hM _ _ ?_
    clear hM M
    refine pops_mv (.inl rfl) rfl (by simp only [St.eval, upd_at, Nat.reduceEqDiff, if_true, if_false, e0_0, e0_3, e0_8, e0_9] <;> rfl) ?_
    refine pops_to rfl fun M hM => ?_
    simp only [pop, St.eval, constSlot, upd_at, Nat.reduceEqDiff, if_true, if_false, popBin, binK, intK, strK, eqK, eq_self, true_and, and_true, e0_0, e0_3, e0_8, e0_9, q6]
    refine hM _ _ ?_
    clear hM M
    refine pops_to rfl fun M hM => ?_
    simp only [pop, St.eval, constSlot, upd_at, Nat.reduceEqDiff, if_true, if_false, popBin, binK, intK, strK, eqK, eq_self, true_and, and_true, e0_0, e0_3, e0_8, e0_9, q7]
    refine hM _ _ ?_
    clear hM M
    refine pops_to rfl fun M hM => ?_
    simp only [pop, St.eval, constSlot, upd_at, Nat.reduceEqDiff, if_true, if_false, popBuildSlice, slotCells, List.toList_toArray, List.map_cons, List.map_nil, List.mapM_cons, List.mapM_nil, Option.bind_eq_bind, Option.bind_some, Option.pure_def, Tryd.underlying43, sz5, ze5, by5, eq_self, true_and, and_true, str_list, str_size, str_app, str_cut, str_get, e0_0, e0_3, e0_8, e0_9]
    refine ⟨by decide, by decide, rfl, rfl, by simp, by decide, rfl, hM _ _ ?_⟩
    clear hM M
    refine pops_to rfl fun M hM => ?_
    simp only [pop, St.eval, constSlot, upd_at, Nat.reduceEqDiff, if_true, if_false, popCall, List.toList_toArray, List.map_cons, List.map_nil, popBuiltin, eq_self, true_and, and_true, str_list, str_size, str_app, str_cut, str_get, e0_0, e0_3, e0_8, e0_9]
    refine rowL_app (ys := ([92, 48 + c / 64, 48 + c / 8 % 8, 48 + c % 8] : List UInt8).map byteCell) hb Tryd.underlying43 sz5 by5 ze5 rfl (by decide) (ho.same (Same.refl _)) (hk0.trans (Same.keeps (Same.refl _))) (by simp) rfl (.inr rfl) ⟨by have := qpre_len s i; simp; omega, by have := qpre_len s i; simp; omega⟩ fun sl2 hp2 ho2 hk2 => hM _ _ ?_
    clear hM M
    refine pops_mv (.inr rfl) rfl (by simp only [St.eval, upd_at, Nat.reduceEqDiff, if_true, if_false, e0_0, e0_3, e0_8, e0_9] <;> rfl) ?_
    refine pops_done (hR20 _ ?_)
    clear hR20 R20
    try simp only [blockK, thenK, scopeK]
    try simp only [thenK, scopeK]
    refine hN11 _ ?_
    clear hN11 N11
    refine pwp_reg fun R21 hR21 => ?_
    refine pops_to rfl fun M hM => ?_
    simp only [pop, St.eval, constSlot, upd_at, Nat.reduceEqDiff, if_true, if_false, popBin, binK, intK, strK, eqK, eq_self, true_and, and_true, e0_0, e0_3, e0_8, e0_9]
    refine hM _ _ ?_
    clear hM M
    refine pops_mv (.inl rfl) rfl (by simp only [St.eval, upd_at, Nat.reduceEqDiff, if_true, if_false, e0_0, e0_3, e0_8, e0_9] <;> rfl) ?_
    refine pops_done (hR21 _ ?_)
    clear hR21 R21
    try simp only [thenK, scopeK]
    exact ⟨_, by omega, _, .refl _ _, i + 1, sl2, rfl, by omega, ⟨hk2, .inr (by rw [qpre_step hx, he, List.map_append]; exact ho2)⟩, by simp only [upd_at, Nat.reduceEqDiff, if_true, if_false, e0_0, e0_3, e0_8, e0_9], by simp only [upd_at, Nat.reduceEqDiff, if_true, if_false, e0_0, e0_3, e0_8, e0_9], by simp only [upd_at, Nat.reduceEqDiff, if_true, if_false, e0_0, e0_3, e0_8, e0_9], by simp only [upd_at, Nat.reduceEqDiff, if_true, if_false, e0_9]; rw [wrap_succ (by omega)]⟩
   ·skip
    rw [special_ref] at c24
    have he := qc_plain c24
    refine pwp_reg fun R22 hR22 => ?_
    refine pops_mv (.inl rfl) rfl (by simp only [St.eval, upd_at, Nat.reduceEqDiff, if_true, if_false, e0_0, e0_3, e0_8, e0_9] <;> rfl) ?_
    refine pops_mv (.inl rfl) rfl (by simp only [St.eval, upd_at, Nat.reduceEqDiff, if_true, if_false, e0_0, e0_3, e0_8, e0_9] <;> rfl) ?_
    refine pops_to rfl fun M hM => ?_
    simp only [pop, St.eval, constSlot, upd_at, Nat.reduceEqDiff, if_true, if_false, popBuildSlice, slotCells, List.toList_toArray, List.map_cons, List.map_nil, List.mapM_cons, List.mapM_nil, Option.bind_eq_bind, Option.bind_some, Option.pure_def, Tryd.underlying43, sz5, ze5, by5, eq_self, true_and, and_true, str_list, str_size, str_app, str_cut, str_get, e0_0, e0_3, e0_8, e0_9]
    refine ⟨by decide, by decide, rfl, rfl, by simp, by decide, rfl, hM _ _ ?_⟩
    clear hM M
    refine pops_to rfl fun M hM => ?_
    simp only [pop, St.eval, constSlot, upd_at, Nat.reduceEqDiff, if_true, if_false, popCall, List.toList_toArray, List.map_cons, List.map_nil, popBuiltin, eq_self, true_and, and_true, str_list, str_size, str_app, str_cut, str_get, e0_0, e0_3, e0_8, e0_9]
    refine rowL_app (ys := ([c] : List UInt8).map byteCell) hb Tryd.underlying43 sz5 by5 ze5 rfl (by decide) (ho.same (Same.refl _)) (hk0.trans (Same.keeps (Same.refl _))) (by simp) rfl (.inr rfl) ⟨by have := qpre_len s i; simp; omega, by have := qpre_len s i; simp; omega⟩ fun sl2 hp2 ho2 hk2 => hM _ _ ?_
    clear hM M
    refine pops_mv (.inr rfl) rfl (by simp only [St.eval, upd_at, Nat.reduceEqDiff, if_true, if_false, e0_0, e0_3, e0_8, e0_9] <;> rfl) ?_
    refine pops_done (hR22 _ ?_)
    clear hR22 R22
    try simp only [blockK, thenK, scopeK]
    try simp only [thenK, scopeK]
    refine hN11 _ ?_
    clear hN11 N11
    refine pwp_reg fun R23 hR23 => ?_
    refine pops_to rfl fun M hM => ?_
    simp only [pop, St.eval, constSlot, upd_at, Nat.reduceEqDiff, if_true, if_false, popBin, binK, intK, strK, eqK, eq_self, true_and, and_true, e0_0, e0_3, e0_8, e0_9]
    refine hM _ _ ?_
    clear hM M
    refine pops_mv (.inl rfl) rfl (by simp only [St.eval, upd_at, Nat.reduceEqDiff, if_true, if_false, e0_0, e0_3, e0_8, e0_9] <;> rfl) ?_
    refine pops_done (hR23 _ ?_)
    clear hR23 R23
    try simp only [thenK, scopeK]
    exact ⟨_, by omega, _, .refl _ _, i + 1, sl2, rfl, by omega, ⟨hk2, .inr (by rw [qpre_step hx, he, List.map_append]; exact ho2)⟩, by simp only [upd_at, Nat.reduceEqDiff, if_true, if_false, e0_0, e0_3, e0_8, e0_9], by simp only [upd_at, Nat.reduceEqDiff, if_true, if_false, e0_0, e0_3, e0_8, e0_9], by simp only [upd_at, Nat.reduceEqDiff, if_true, if_false, e0_0, e0_3, e0_8, e0_9], by simp only [upd_at, Nat.reduceEqDiff, if_true, if_false, e0_9]; rw [wrap_succ (by omega)]⟩
  ·skip
   have hi := of_decide_eq_false c10
   refine pwp_exit ?_
   try simp only [thenK, blockK, scopeK, if_true, Nat.reduceEqDiff, if_false]
   clear hN10 N10
   try simp only [blockK, scopeK, if_true, Nat.reduceEqDiff, if_false, thenK]
   try simp only [thenK, scopeK]
   refine hN5 _ ?_
   clear hN5 N5
   refine pwp_then fun N24 hN24 => ?_
   refine pwp_reg fun R25 hR25 => ?_
   refine pops_mv (.inl rfl) rfl (by simp only [St.eval, upd_at, Nat.reduceEqDiff, if_true, if_false, e0_0, e0_3, e0_8, e0_9] <;> rfl) ?_
   refine pops_to rfl fun M hM => ?_
   simp only [pop, St.eval, constSlot, upd_at, Nat.reduceEqDiff, if_true, if_false, popBuildSlice, slotCells, List.toList_toArray, List.map_cons, List.map_nil, List.mapM_cons, List.mapM_nil, Option.bind_eq_bind, Option.bind_some, Option.pure_def, Tryd.underlying43, sz5, ze5, by5, eq_self, true_and, and_true, str_list, str_size, str_app, str_cut, str_get, e0_0, e0_3, e0_8, e0_9]
   refine ⟨by decide, by decide, rfl, rfl, by simp, by decide, rfl, hM _ _ ?_⟩
   clear hM M
   refine pops_to rfl fun M hM => ?_
   simp only [pop, St.eval, constSlot, upd_at, Nat.reduceEqDiff, if_true, if_false, popCall, List.toList_toArray, List.map_cons, List.map_nil, popBuiltin, eq_self, true_and, and_true, str_list, str_size, str_app, str_cut, str_get, e0_0, e0_3, e0_8, e0_9]
   refine rowL_app (ys := ([34] : List UInt8).map byteCell) hb Tryd.underlying43 sz5 by5 ze5 rfl (by decide) (ho.same (Same.refl _)) (hk0.trans (Same.keeps (Same.refl _))) (by simp) rfl (.inr rfl) ⟨by have := qpre_len s i; simp; omega, by have := qpre_len s i; simp; omega⟩ fun sl2 hp2 ho2 hk2 => hM _ _ ?_
   clear hM M
   refine pops_to rfl fun M hM => ?_
   simp only [pop, St.eval, constSlot, upd_at, Nat.reduceEqDiff, if_true, if_false, eq_self, true_and, and_true, str_list, str_size, str_app, str_cut, str_get, e0_0, e0_3, e0_8, e0_9]
   refine row_str Tryd.underlying9 Tryd.underlying43 Tryd.underlying5 (by rw [← List.map_append] at ho2; exact ho2) (hM _ _ ?_)
   clear hM M
   refine pops_mv (.inr rfl) rfl (by simp only [St.eval, upd_at, Nat.reduceEqDiff, if_true, if_false, e0_0, e0_3, e0_8, e0_9] <;> rfl) ?_
   refine pops_done (hR25 _ ?_)
   clear hR25 R25
   try simp only [thenK, scopeK]
   refine hN24 _ ?_
   clear hN24 N24
   refine pwp_ret ?_
   simp only [thenK, blockK, scopeK, bodyK]
   exact ⟨_, rfl, by rw [← qpre_end (show s.length ≤ i by omega)]; exact endKeeps1 hk2 rfl⟩
end Go.Pw
