import Derived.Test.YtomkpdnnimcapaaDoorShC
namespace Go.Pw
open Go Go.RowKit Go.Proofs
set_option maxRecDepth 100000
set_option linter.unusedSimpArgs false
set_option linter.unusedVariables false
theorem bd30 (parts : List (Nat × Slot)) (N : Slot → Prop) : popBuild Tryd.prog 30 parts N = (match fillP [(0, 1), (1, 1)] [PV.val (.int .i64 0), PV.val (.string ⟨#[]⟩)] parts with | some ps => N (.sv (.agg ps)) | none => False) :=
  popBuild_of (z := (.agg #[(.int .i64 0), (.string ⟨#[]⟩)])) (by kernel_rfl) (by kernel_rfl) (by kernel_rfl) (by kernel_rfl) parts N
theorem by30 : bytesOf' Tryd.prog 30 = some 24 := by kernel_rfl

def evp : List UInt8 → UInt8 → UInt8
  | [], _ => 0
  | c :: cs, x => Gf.gm (evp cs x) x ^^^ c
def nj (noise : List UInt8) (need j : Nat) : List UInt8 := (noise.drop (j * (need - 1))).take (need - 1)
def polyV (sec noise : List UInt8) (need : Nat) (x : UInt8) (j : Nat) : UInt8 := evp (sec.getD j 0 :: nj noise need j) x
def ptsV (sec noise : List UInt8) (need : Nat) (x : UInt8) : List UInt8 := (List.range sec.length).map (polyV sec noise need x)
def shareK (sec noise : List UInt8) (need k : Nat) : UInt8 × List UInt8 := (UInt8.ofNat (k + 1), ptsV sec noise need (UInt8.ofNat (k + 1)))
def shU (sec noise : List UInt8) (need n : Nat) : List (UInt8 × List UInt8) := (List.range n).map (shareK sec noise need)
theorem shU_succ (sec noise : List UInt8) (need n : Nat) : shU sec noise need (n + 1) = shU sec noise need n ++ [shareK sec noise need n] := by
  unfold shU
  rw [List.range_succ, List.map_append]; rfl
theorem u8_nat {X : Nat} (h : X < 256) : IntKind.u8.wrap (X : Int) = ((UInt8.ofNat X).toNat : Int) := by
  rw [u8_wrap h, UInt8.toNat_ofNat', Nat.mod_eq_of_lt h]
theorem nj_len {sec noise : List UInt8} {need j : Nat} (hn : noise.length = sec.length * (need - 1)) (hj : j < sec.length) : (nj noise need j).length = need - 1 := by
  unfold nj
  rw [List.length_take, List.length_drop, hn]
  have := Nat.mul_le_mul_right (need - 1) (show j + 1 ≤ sec.length from hj)
  rw [Nat.add_mul, Nat.one_mul] at this
  omega
theorem nj_at {sec noise : List UInt8} {need j c : Nat} (hn : noise.length = sec.length * (need - 1)) (hj : j < sec.length) (hc : c < need - 1) : ∃ d, noise[j * (need - 1) + c]? = some d ∧ (nj noise need j)[c]? = some d := by
  have hl := nj_len hn hj
  refine ⟨_, ?_, List.getElem?_eq_getElem (by omega)⟩
  rw [← List.getElem?_eq_getElem (by omega)]
  unfold nj
  rw [List.getElem?_take, if_pos hc, List.getElem?_drop]
theorem ev_drop {cs : List UInt8} {c : Nat} {d : UInt8} (h : cs[c]? = some d) (x : UInt8) : evp (cs.drop c) x = Gf.gm (evp (cs.drop (c + 1)) x) x ^^^ d := by
  have hc := (List.getElem?_eq_some_iff.1 h).1
  rw [List.drop_eq_getElem_cons hc]
  have := (List.getElem?_eq_some_iff.1 h).2
  rw [this]; rfl
theorem pts_all {sec noise : List UInt8} {need : Nat} {x : UInt8} {vs : List UInt8} (hl : vs.length = sec.length) (h : ∀ q, q < sec.length → vs[q]? = some (polyV sec noise need x q)) : vs = ptsV sec noise need x := by
  apply List.ext_getElem?
  intro j
  rcases Nat.lt_or_ge j sec.length with hj | hj
  · rw [h j hj, ptsV, List.getElem?_map, List.getElem?_range hj]; rfl
  · rw [List.getElem?_eq_none (by omega), List.getElem?_eq_none (by rw [ptsV, List.length_map, List.length_range]; omega)]
theorem shPV_k {sec noise : List UInt8} {need k : Nat} (h : k + 1 < 256) : shPV (shareK sec noise need k) = [.val (.int .i64 ((k + 1 : Nat) : Int)), pstr (ptsV sec noise need (UInt8.ofNat (k + 1)))] := by
  unfold shareK shPV
  simp only []
  rw [UInt8.toNat_ofNat', Nat.mod_eq_of_lt h]
theorem i64_small {n : Int} (h1 : -1000000 ≤ n) (h2 : n ≤ 1000000) : IntKind.i64.wrap n = n := wrap_i64 (by omega) (by omega)
theorem nm5 : (Tryd.f5.name == "runtime.NumGoroutine") = false := by kernel_rfl
set_option maxHeartbeats 4000000 in
theorem shares_fun (W0 : World) (sec noise : List UInt8) (need many : Nat) (h1 : 1 ≤ need) (h2 : need ≤ many) (h3 : many ≤ 20) (hs0 : 0 < sec.length) (hs1 : sec.length ≤ 20) (hn : noise.length = sec.length * (need - 1)) :
  PFun Tryd.prog W0 5 [.one (pstr sec), .one (pstr noise), .one (pint (need : Nat)), .one (pint (many : Nat))] (.tup [.one (.ro false 2 ((shU sec noise need many).map shPV)), .one (pint 0)]) := by
 intro h
 have hne : (sec == []) = false := by cases sec with | nil => simp at hs0 | cons a b => rfl
 have hw78 : IntKind.i64.wrap ((need : Int) - 1) = ((need - 1 : Nat) : Int) := by rw [i64_small (by omega) (by omega)]; omega
 have hmul20 : sec.length * (need - 1) ≤ 20 * 19 := Nat.mul_le_mul hs1 (by omega)
 have hw45 : IntKind.i64.wrap ((sec.length : Int) * ((need - 1 : Nat) : Int)) = ((sec.length * (need - 1) : Nat) : Int) := by rw [← Int.natCast_mul, i64_small (by omega) (by omega)]
 have hne46 : ((noise.length : Int) != ((sec.length * (need - 1) : Nat) : Int)) = false := by rw [hn]; exact bne_self_eq_false _
 refine pcalls4 (n := 109) Tryd.func5 rfl nm5 rfl fun hb => ?_
 refine pwp_then fun N1 hN1 => ?_
 refine pwp_reg fun R2 hR2 => ?_
 refine pops_mv (.inr rfl) rfl (by simp only [St.eval, constSlot] <;> rfl) ?_
 refine pops_mv (.inr rfl) rfl (by simp only [St.eval, constSlot] <;> rfl) ?_
 refine pops_done (hR2 _ ?_)
 clear hR2 R2
 try simp only [thenK, scopeK]
 refine hN1 _ ?_
 clear hN1 N1
 refine pwp_then fun N3 hN3 => ?_
 refine pwp_block ?_
 refine pwp_then fun N4 hN4 => ?_
 refine pwp_reg fun R5 hR5 => ?_
 refine pops_mv (.inl rfl) rfl (by simp only [St.eval, upd_at, Nat.reduceEqDiff, if_true, if_false, shPV] <;> rfl) ?_
 refine pops_to rfl fun M hM => ?_
 simp only [pop, St.eval, constSlot, upd_at, Nat.reduceEqDiff, if_true, if_false, popBin, binK, intK, strK, eqK, Tryd.underlying9, isPtr, eq_self, true_and, and_true, str_list, str_size, str_app, str_cut, str_get, shPV, hne]
 refine hM _ _ ?_
 clear hM M
 refine pops_mv (.inr rfl) rfl (by simp only [St.eval, upd_at, Nat.reduceEqDiff, if_true, if_false, shPV] <;> rfl) ?_
 refine pops_done (hR5 _ ?_)
 clear hR5 R5
 try simp only [thenK, scopeK]
 refine hN4 _ ?_
 clear hN4 N4
 refine pwp_cond_false (by simp only [St.eval, upd_at, Nat.reduceEqDiff, if_true, if_false, shPV] <;> rfl) ?_
 refine pwp_then fun N6 hN6 => ?_
 refine pwp_reg fun R7 hR7 => ?_
 refine pops_mv (.inl rfl) rfl (by simp only [St.eval, upd_at, Nat.reduceEqDiff, if_true, if_false, shPV] <;> rfl) ?_
 refine pops_to rfl fun M hM => ?_
 simp only [pop, St.eval, constSlot, upd_at, Nat.reduceEqDiff, if_true, if_false, popCall, List.toList_toArray, List.map_cons, List.map_nil, popBuiltin, popLen, lenOfSlot, List.length_map, Tryd.underlying9, eq_self, true_and, and_true, str_list, str_size, str_app, str_cut, str_get, shPV]
 refine hM _ _ ?_
 clear hM M
 refine pops_to rfl fun M hM => ?_
 simp only [pop, St.eval, constSlot, upd_at, Nat.reduceEqDiff, if_true, if_false, popBin, binK, intK, strK, eqK, eq_self, true_and, and_true, shPV]
 refine hM _ _ ?_
 clear hM M
 refine pops_mv (.inr rfl) rfl (by simp only [St.eval, upd_at, Nat.reduceEqDiff, if_true, if_false, shPV] <;> rfl) ?_
 refine pops_done (hR7 _ ?_)
 clear hR7 R7
 try simp only [thenK, scopeK]
 refine hN6 _ ?_
 clear hN6 N6
 refine pwp_cond (by simp only [St.eval, upd_at, Nat.reduceEqDiff, if_true, if_false, shPV] <;> rfl) (fun c18 => ?_) (fun c18 => ?_)
 ·skip
  have := of_decide_eq_true c18
  omega
 ·skip
  refine pwp_then fun N8 hN8 => ?_
  refine pwp_reg fun R9 hR9 => ?_
  refine pops_mv (.inl rfl) rfl (by simp only [St.eval, upd_at, Nat.reduceEqDiff, if_true, if_false, shPV] <;> rfl) ?_
  refine pops_to rfl fun M hM => ?_
  simp only [pop, St.eval, constSlot, upd_at, Nat.reduceEqDiff, if_true, if_false, popBin, binK, intK, strK, eqK, eq_self, true_and, and_true, shPV]
  refine hM _ _ ?_
  clear hM M
  refine pops_mv (.inl rfl) rfl (by simp only [St.eval, upd_at, Nat.reduceEqDiff, if_true, if_false, shPV] <;> rfl) ?_
  apply pops_or0 3 25 28 [26, 27] (by simp only [upd_at, Nat.reduceEqDiff, if_true, if_false, shPV] <;> rfl)
  ·skip
   intro g25_0 J10 hJ10
   simp only [List.take_succ_cons, List.take_zero]
   simp only [anyAt_cons, anyAt_nil] at hJ10
   refine pops_mvg (.inl rfl) rfl rfl (by simp only [upd_at, Nat.reduceEqDiff, if_true, if_false, shPV, g25_0]) (by simp only [St.eval, upd_at, Nat.reduceEqDiff, if_true, if_false, shPV, g25_0] <;> rfl) ?_
   refine pops_do rfl rfl (by simp only [upd_at, Nat.reduceEqDiff, if_true, if_false, shPV, g25_0]) fun M hM => ?_
   simp only [pop, St.eval, constSlot, upd_at, Nat.reduceEqDiff, if_true, if_false, popBin, binK, intK, strK, eqK, eq_self, true_and, and_true, shPV, g25_0]
   refine hM _ _ ?_
   clear hM M
   refine pops_to rfl fun M hM => ?_
   simp only [pop, St.eval, constSlot, upd_at, Nat.reduceEqDiff, if_true, if_false, popIf, true_implies, false_implies, Bool.true_eq_false, Bool.false_eq_true, reduceCtorEq, true_and, and_true, shPV, g25_0]
   refine hM _ _ ?_
   clear hM M
   exact pops_done (hJ10 _ (wk_same (wk_any ((wk_any (Wk.refl _ _))))))
  ·skip
   intro g25_0 J10 hJ10
   simp only [List.take_succ_cons, List.take_zero]
   simp only [anyAt_cons, anyAt_nil] at hJ10
   refine pops_off (b := true) rfl rfl (by simp only [upd_at, Nat.reduceEqDiff, if_true, if_false, shPV, g25_0]) (by decide) ?_
   refine pops_off (b := true) rfl rfl (by simp only [upd_at, Nat.reduceEqDiff, if_true, if_false, shPV, g25_0]) (by decide) ?_
   refine pops_to rfl fun M hM => ?_
   simp only [pop, St.eval, constSlot, upd_at, Nat.reduceEqDiff, if_true, if_false, popIf, true_implies, false_implies, Bool.true_eq_false, Bool.false_eq_true, reduceCtorEq, true_and, and_true, shPV, g25_0]
   refine hM _ _ ?_
   clear hM M
   exact pops_done (hJ10 _ (wk_same (wk_any ((wk_any (Wk.refl _ _))))))
  simp only [List.drop_succ_cons, List.drop_zero, anyAt_cons, anyAt_nil]
  refine pops_mv (.inl rfl) rfl (by simp only [St.eval, upd_at, Nat.reduceEqDiff, if_true, if_false, shPV] <;> rfl) ?_
  apply pops_or0 3 29 32 [30, 31] (by simp only [upd_at, Nat.reduceEqDiff, if_true, if_false, shPV] <;> rfl)
  ·skip
   intro g29_0 J11 hJ11
   simp only [List.take_succ_cons, List.take_zero]
   simp only [anyAt_cons, anyAt_nil] at hJ11
   refine pops_mvg (.inl rfl) rfl rfl (by simp only [upd_at, Nat.reduceEqDiff, if_true, if_false, shPV, g29_0]) (by simp only [St.eval, upd_at, Nat.reduceEqDiff, if_true, if_false, shPV, g29_0] <;> rfl) ?_
   refine pops_do rfl rfl (by simp only [upd_at, Nat.reduceEqDiff, if_true, if_false, shPV, g29_0]) fun M hM => ?_
   simp only [pop, St.eval, constSlot, upd_at, Nat.reduceEqDiff, if_true, if_false, popBin, binK, intK, strK, eqK, eq_self, true_and, and_true, shPV, g29_0]
   refine hM _ _ ?_
   clear hM M
   refine pops_to rfl fun M hM => ?_
   simp only [pop, St.eval, constSlot, upd_at, Nat.reduceEqDiff, if_true, if_false, popIf, true_implies, false_implies, Bool.true_eq_false, Bool.false_eq_true, reduceCtorEq, true_and, and_true, shPV, g29_0]
   refine hM _ _ ?_
   clear hM M
   exact pops_done (hJ11 _ (wk_same (wk_any ((wk_any (Wk.refl _ _))))))
  ·skip
   intro g29_0 J11 hJ11
   simp only [List.take_succ_cons, List.take_zero]
   simp only [anyAt_cons, anyAt_nil] at hJ11
   refine pops_off (b := true) rfl rfl (by simp only [upd_at, Nat.reduceEqDiff, if_true, if_false, shPV, g29_0]) (by decide) ?_
   refine pops_off (b := true) rfl rfl (by simp only [upd_at, Nat.reduceEqDiff, if_true, if_false, shPV, g29_0]) (by decide) ?_
   refine pops_to rfl fun M hM => ?_
   simp only [pop, St.eval, constSlot, upd_at, Nat.reduceEqDiff, if_true, if_false, popIf, true_implies, false_implies, Bool.true_eq_false, Bool.false_eq_true, reduceCtorEq, true_and, and_true, shPV, g29_0]
   refine hM _ _ ?_
   clear hM M
   exact pops_done (hJ11 _ (wk_same (wk_any ((wk_any (Wk.refl _ _))))))
  simp only [List.drop_succ_cons, List.drop_zero, anyAt_cons, anyAt_nil]
  refine pops_mv (.inl rfl) rfl (by simp only [St.eval, upd_at, Nat.reduceEqDiff, if_true, if_false, shPV] <;> rfl) ?_
  apply pops_or0 4 33 37 [34, 35, 36] (by simp only [upd_at, Nat.reduceEqDiff, if_true, if_false, shPV] <;> rfl)
  ·skip
   intro g33_0 J12 hJ12
   simp only [List.take_succ_cons, List.take_zero]
   simp only [anyAt_cons, anyAt_nil] at hJ12
   refine pops_mvg (.inl rfl) rfl rfl (by simp only [upd_at, Nat.reduceEqDiff, if_true, if_false, shPV, g33_0]) (by simp only [St.eval, upd_at, Nat.reduceEqDiff, if_true, if_false, shPV, g33_0] <;> rfl) ?_
   refine pops_mvg (.inl rfl) rfl rfl (by simp only [upd_at, Nat.reduceEqDiff, if_true, if_false, shPV, g33_0]) (by simp only [St.eval, upd_at, Nat.reduceEqDiff, if_true, if_false, shPV, g33_0] <;> rfl) ?_
   refine pops_do rfl rfl (by simp only [upd_at, Nat.reduceEqDiff, if_true, if_false, shPV, g33_0]) fun M hM => ?_
   simp only [pop, St.eval, constSlot, upd_at, Nat.reduceEqDiff, if_true, if_false, popBin, binK, intK, strK, eqK, eq_self, true_and, and_true, shPV, g33_0]
   refine hM _ _ ?_
   clear hM M
   refine pops_to rfl fun M hM => ?_
   simp only [pop, St.eval, constSlot, upd_at, Nat.reduceEqDiff, if_true, if_false, popIf, true_implies, false_implies, Bool.true_eq_false, Bool.false_eq_true, reduceCtorEq, true_and, and_true, shPV, g33_0]
   refine hM _ _ ?_
   clear hM M
   exact pops_done (hJ12 _ (wk_same (wk_any ((wk_any ((wk_any (Wk.refl _ _))))))))
  ·skip
   intro g33_0 J12 hJ12
   simp only [List.take_succ_cons, List.take_zero]
   simp only [anyAt_cons, anyAt_nil] at hJ12
   refine pops_off (b := true) rfl rfl (by simp only [upd_at, Nat.reduceEqDiff, if_true, if_false, shPV, g33_0]) (by decide) ?_
   refine pops_off (b := true) rfl rfl (by simp only [upd_at, Nat.reduceEqDiff, if_true, if_false, shPV, g33_0]) (by decide) ?_
   refine pops_off (b := true) rfl rfl (by simp only [upd_at, Nat.reduceEqDiff, if_true, if_false, shPV, g33_0]) (by decide) ?_
   refine pops_to rfl fun M hM => ?_
   simp only [pop, St.eval, constSlot, upd_at, Nat.reduceEqDiff, if_true, if_false, popIf, true_implies, false_implies, Bool.true_eq_false, Bool.false_eq_true, reduceCtorEq, true_and, and_true, shPV, g33_0]
   refine hM _ _ ?_
   clear hM M
   exact pops_done (hJ12 _ (wk_same (wk_any ((wk_any ((wk_any (Wk.refl _ _))))))))
  simp only [List.drop_succ_cons, List.drop_zero, anyAt_cons, anyAt_nil]
  refine pops_mv (.inr rfl) rfl (by simp only [St.eval, upd_at, Nat.reduceEqDiff, if_true, if_false, shPV] <;> rfl) ?_
  refine pops_done (hR9 _ ?_)
  clear hR9 R9
  try simp only [thenK, scopeK]
  refine hN8 _ ?_
  clear hN8 N8
  refine pwp_cond (by simp only [St.eval, upd_at, Nat.reduceEqDiff, if_true, if_false, shPV] <;> rfl) (fun c22 => ?_) (fun c22 => ?_)
  ·skip
   simp only [Bool.or_eq_true, decide_eq_true_eq] at c22
   omega
  ·skip
   refine pwp_then fun N13 hN13 => ?_
   refine pwp_reg fun R14 hR14 => ?_
   refine pops_mv (.inl rfl) rfl (by simp only [St.eval, upd_at, Nat.reduceEqDiff, if_true, if_false, shPV] <;> rfl) ?_
   refine pops_to rfl fun M hM => ?_
   simp only [pop, St.eval, constSlot, upd_at, Nat.reduceEqDiff, if_true, if_false, popCall, List.toList_toArray, List.map_cons, List.map_nil, popBuiltin, popLen, lenOfSlot, List.length_map, Tryd.underlying9, eq_self, true_and, and_true, str_list, str_size, str_app, str_cut, str_get, shPV]
   refine hM _ _ ?_
   clear hM M
   refine pops_mv (.inl rfl) rfl (by simp only [St.eval, upd_at, Nat.reduceEqDiff, if_true, if_false, shPV] <;> rfl) ?_
   refine pops_to rfl fun M hM => ?_
   simp only [pop, St.eval, constSlot, upd_at, Nat.reduceEqDiff, if_true, if_false, popCall, List.toList_toArray, List.map_cons, List.map_nil, popBuiltin, popLen, lenOfSlot, List.length_map, Tryd.underlying9, eq_self, true_and, and_true, str_list, str_size, str_app, str_cut, str_get, shPV]
   refine hM _ _ ?_
   clear hM M
   refine pops_mv (.inl rfl) rfl (by simp only [St.eval, upd_at, Nat.reduceEqDiff, if_true, if_false, shPV] <;> rfl) ?_
   refine pops_to rfl fun M hM => ?_
   simp only [pop, St.eval, constSlot, upd_at, Nat.reduceEqDiff, if_true, if_false, popBin, binK, intK, strK, eqK, eq_self, true_and, and_true, shPV, hw78]
   refine hM _ _ ?_
   clear hM M
   refine pops_to rfl fun M hM => ?_
   simp only [pop, St.eval, constSlot, upd_at, Nat.reduceEqDiff, if_true, if_false, popBin, binK, intK, strK, eqK, eq_self, true_and, and_true, shPV, hw45]
   refine hM _ _ ?_
   clear hM M
   refine pops_to rfl fun M hM => ?_
   simp only [pop, St.eval, constSlot, upd_at, Nat.reduceEqDiff, if_true, if_false, popBin, binK, intK, strK, eqK, Tryd.underlying3, isPtr, eq_self, true_and, and_true, shPV, hne46]
   refine hM _ _ ?_
   clear hM M
   refine pops_mv (.inr rfl) rfl (by simp only [St.eval, upd_at, Nat.reduceEqDiff, if_true, if_false, shPV] <;> rfl) ?_
   refine pops_done (hR14 _ ?_)
   clear hR14 R14
   try simp only [thenK, scopeK]
   refine hN13 _ ?_
   clear hN13 N13
   refine pwp_cond_false (by simp only [St.eval, upd_at, Nat.reduceEqDiff, if_true, if_false, shPV] <;> rfl) ?_
   refine pwp_skip ?_
   try simp only [blockK, thenK, scopeK]
   try simp only [thenK, scopeK]
   refine hN3 _ ?_
   clear hN3 N3
   refine pwp_then fun N15 hN15 => ?_
   refine pwp_reg fun R16 hR16 => ?_
   refine pops_mv (.inr rfl) rfl (by simp only [St.eval, constSlot] <;> rfl) ?_
   refine pops_done (hR16 _ ?_)
   clear hR16 R16
   try simp only [thenK, scopeK]
   refine hN15 _ ?_
   clear hN15 N15
   refine pwp_then fun N17 hN17 => ?_
   refine pwp_then fun N18 hN18 => ?_
   refine pwp_reg fun R19 hR19 => ?_
   refine pops_mv (.inr rfl) rfl (by simp only [St.eval, constSlot] <;> rfl) ?_
   refine pops_done (hR19 _ ?_)
   clear hR19 R19
   try simp only [thenK, scopeK]
   refine hN18 _ ?_
   clear hN18 N18
   refine pwp_block ?_
   refine pwp_loop (fun k σ => ∃ (X : Nat), ∃ (sl : Slot), (k = many + 1 - X) ∧ (1 ≤ X) ∧ (X ≤ many + 1) ∧ (Keeps h σ.hp ∧ RowIs 30 2 h σ.hp sl ((shU sec noise need (X - 1)).map shPV)) ∧ (σ.env 0 = .sv (.one (pstr sec))) ∧ (σ.env 1 = .sv (.one (pstr noise))) ∧ (σ.env 2 = .sv (.one (pint (need : Nat)))) ∧ (σ.env 3 = .sv (.one (pint (many : Nat)))) ∧ (σ.env 10 = sl) ∧ (σ.env 11 = .sv (.one (pint (X : Nat))))) _ ⟨_, .refl _ _, 1, (.sv (.one (.val (.slice none 0 0)))), rfl, ?_⟩ ?_
   · exact ⟨Nat.le_refl _, by omega, ⟨Same.keeps (Same.refl _), .nil _ _ _ _⟩, by simp only [upd_at, Nat.reduceEqDiff, if_true, if_false, shPV], by simp only [upd_at, Nat.reduceEqDiff, if_true, if_false, shPV], by simp only [upd_at, Nat.reduceEqDiff, if_true, if_false, shPV], by simp only [upd_at, Nat.reduceEqDiff, if_true, if_false, shPV], by simp only [upd_at, Nat.reduceEqDiff, if_true, if_false, shPV], by first | rfl | (simp only [upd_at, Nat.reduceEqDiff, if_true, if_false]; rfl)⟩
   ·rintro k ⟨e, hp0⟩ ⟨X, sl, hk0, hx0_0, hx0_1, sl0, e0_0, e0_1, e0_2, e0_3, e0_10, e0_11⟩
    simp only at sl0 e0_0 e0_1 e0_2 e0_3 e0_10 e0_11
    obtain ⟨hKa, hoa⟩ := sl0
    refine pwp_hpok fun hok0 => ?_
    simp only at hok0
    refine pwp_then fun N20 hN20 => ?_
    refine pwp_then fun N21 hN21 => ?_
    refine pwp_reg fun R22 hR22 => ?_
    refine pops_mv (.inl rfl) rfl (by simp only [St.eval, upd_at, Nat.reduceEqDiff, if_true, if_false, e0_0, e0_1, e0_2, e0_3, e0_10, e0_11, shPV] <;> rfl) ?_
    refine pops_mv (.inl rfl) rfl (by simp only [St.eval, upd_at, Nat.reduceEqDiff, if_true, if_false, e0_0, e0_1, e0_2, e0_3, e0_10, e0_11, shPV] <;> rfl) ?_
    refine pops_to rfl fun M hM => ?_
    simp only [pop, St.eval, constSlot, upd_at, Nat.reduceEqDiff, if_true, if_false, popBin, binK, intK, strK, eqK, eq_self, true_and, and_true, e0_0, e0_1, e0_2, e0_3, e0_10, e0_11, shPV]
    refine hM _ _ ?_
    clear hM M
    refine pops_done (hR22 _ ?_)
    clear hR22 R22
    try simp only [thenK, scopeK]
    refine hN21 _ ?_
    clear hN21 N21
    refine pwp_cond (by simp only [St.eval, upd_at, Nat.reduceEqDiff, if_true, if_false, e0_0, e0_1, e0_2, e0_3, e0_10, e0_11, shPV] <;> rfl) (fun c49 => ?_) (fun c49 => ?_)
    ·skip
     have hX : X ≤ many := by have := of_decide_eq_true c49; omega
     refine pwp_skip ?_
     try simp only [thenK, scopeK]
     refine hN20 _ ?_
     clear hN20 N20
     refine pwp_then fun N23 hN23 => ?_
     refine pwp_block ?_
     refine pwp_then fun N24 hN24 => ?_
     refine pwp_reg fun R25 hR25 => ?_
     refine pops_mv (.inl rfl) rfl (by simp only [St.eval, upd_at, Nat.reduceEqDiff, if_true, if_false, e0_0, e0_1, e0_2, e0_3, e0_10, e0_11, shPV] <;> rfl) ?_
     refine pops_to rfl fun M hM => ?_
     simp only [pop, St.eval, constSlot, upd_at, Nat.reduceEqDiff, if_true, if_false, popCall, List.toList_toArray, List.map_cons, List.map_nil, popBuiltin, popLen, lenOfSlot, List.length_map, Tryd.underlying9, eq_self, true_and, and_true, str_list, str_size, str_app, str_cut, str_get, e0_0, e0_1, e0_2, e0_3, e0_10, e0_11, shPV]
     refine hM _ _ ?_
     clear hM M
     refine pops_to rfl fun M hM => ?_
     simp only [pop, St.eval, constSlot, upd_at, Nat.reduceEqDiff, if_true, if_false, eq_self, true_and, and_true, str_list, str_size, str_app, str_cut, str_get, e0_0, e0_1, e0_2, e0_3, e0_10, e0_11, shPV]
     refine row_make (h0 := hp0) hok0 Tryd.underlying36 sz5 by5 ze5 rfl (by kernel_rfl) Nat.one_pos (Same.keeps (Same.refl _)) (by omega) (by omega) fun rw1 hpm hom hkm => hM _ _ ?_
     rw [fill_bytes] at hom
     clear hM M
     refine pops_mv (.inr rfl) rfl (by simp only [St.eval, upd_at, Nat.reduceEqDiff, if_true, if_false, e0_0, e0_1, e0_2, e0_3, e0_10, e0_11, shPV] <;> rfl) ?_
     refine pops_done (hR25 _ ?_)
     clear hR25 R25
     try simp only [thenK, scopeK]
     refine hN24 _ ?_
     clear hN24 N24
     refine pwp_then fun N26 hN26 => ?_
     refine pwp_then fun N27 hN27 => ?_
     refine pwp_reg fun R28 hR28 => ?_
     refine pops_mv (.inl rfl) rfl (by simp only [St.eval, upd_at, Nat.reduceEqDiff, if_true, if_false, e0_0, e0_1, e0_2, e0_3, e0_10, e0_11, shPV] <;> rfl) ?_
     refine pops_to rfl fun M hM => ?_
     simp only [pop, St.eval, constSlot, upd_at, Nat.reduceEqDiff, if_true, if_false, popCall, List.toList_toArray, List.map_cons, List.map_nil, popBuiltin, eq_self, true_and, and_true, str_list, str_size, str_app, str_cut, str_get, e0_0, e0_1, e0_2, e0_3, e0_10, e0_11, shPV]
     refine row_len Tryd.underlying36 (hom.same (Same.refl _)) ?_
     rw [blen (List.length_replicate)]
     refine hM _ _ ?_
     clear hM M
     refine pops_mv (.inl rfl) rfl (by simp only [St.eval, constSlot] <;> rfl) ?_
     refine pops_done (hR28 _ ?_)
     clear hR28 R28
     try simp only [thenK, scopeK]
     refine hN27 _ ?_
     clear hN27 N27
     refine pwp_block ?_
     refine pwp_loop (fun k σ => ∃ (j : Nat), ∃ (vs : List UInt8), (k = sec.length - j) ∧ (j ≤ sec.length) ∧ (vs.length = sec.length) ∧ (∀ q, q < j → vs[q]? = some (polyV sec noise need (UInt8.ofNat X) q)) ∧ (∀ q, j ≤ q → q < sec.length → vs[q]? = some 0) ∧ (Keeps hp0 σ.hp ∧ RowIs 5 1 hp0 σ.hp rw1 (vs.map byteCell)) ∧ (σ.env 0 = .sv (.one (pstr sec))) ∧ (σ.env 1 = .sv (.one (pstr noise))) ∧ (σ.env 2 = .sv (.one (pint (need : Nat)))) ∧ (σ.env 3 = .sv (.one (pint (many : Nat)))) ∧ (σ.env 10 = sl) ∧ (σ.env 11 = .sv (.one (pint (X : Nat)))) ∧ (σ.env 12 = rw1) ∧ (σ.env 56 = .sv (.one (pint (sec.length : Nat)))) ∧ (σ.env 57 = .sv (.one (pint (j : Nat))))) _ ⟨_, .refl _ _, 0, (List.replicate sec.length 0), rfl, ?_⟩ ?_
     · exact ⟨Nat.zero_le _, by simp, fun q hq => absurd hq (by omega), fun q _ hq => by rw [List.getElem?_replicate, if_pos hq], ⟨hkm.trans (Same.keeps (Same.refl _)), hom.same (Same.refl _)⟩, by simp only [upd_at, Nat.reduceEqDiff, if_true, if_false, e0_0, e0_1, e0_2, e0_3, e0_10, e0_11, shPV], by simp only [upd_at, Nat.reduceEqDiff, if_true, if_false, e0_0, e0_1, e0_2, e0_3, e0_10, e0_11, shPV], by simp only [upd_at, Nat.reduceEqDiff, if_true, if_false, e0_0, e0_1, e0_2, e0_3, e0_10, e0_11, shPV], by simp only [upd_at, Nat.reduceEqDiff, if_true, if_false, e0_0, e0_1, e0_2, e0_3, e0_10, e0_11, shPV], by simp only [upd_at, Nat.reduceEqDiff, if_true, if_false, e0_0, e0_1, e0_2, e0_3, e0_10, e0_11, shPV], by simp only [upd_at, Nat.reduceEqDiff, if_true, if_false, e0_0, e0_1, e0_2, e0_3, e0_10, e0_11, shPV], by simp only [upd_at, Nat.reduceEqDiff, if_true, if_false, e0_0, e0_1, e0_2, e0_3, e0_10, e0_11, shPV], by first | rfl | (simp only [upd_at, Nat.reduceEqDiff, if_true, if_false]; rfl), by first | rfl | (simp only [upd_at, Nat.reduceEqDiff, if_true, if_false]; rfl)⟩
     ·rintro k ⟨e, hp1⟩ ⟨j, vs, hk1, hx1_0, hx1_1, hx1_2, hx1_3, sl1, e1_0, e1_1, e1_2, e1_3, e1_10, e1_11, e1_12, e1_56, e1_57⟩
      simp only at sl1 e1_0 e1_1 e1_2 e1_3 e1_10 e1_11 e1_12 e1_56 e1_57
      obtain ⟨hKb, hob⟩ := sl1
      refine pwp_hpok fun hok1 => ?_
      simp only at hok1
      refine pwp_then fun N29 hN29 => ?_
      refine pwp_reg fun R30 hR30 => ?_
      refine pops_to rfl fun M hM => ?_
      simp only [pop, St.eval, constSlot, upd_at, Nat.reduceEqDiff, if_true, if_false, popBin, binK, intK, strK, eqK, eq_self, true_and, and_true, e1_0, e1_1, e1_2, e1_3, e1_10, e1_11, e1_12, e1_56, e1_57, shPV]
      refine hM _ _ ?_
      clear hM M
      refine pops_done (hR30 _ ?_)
      clear hR30 R30
      try simp only [thenK, scopeK]
      refine hN29 _ ?_
      clear hN29 N29
      refine pwp_then fun N31 hN31 => ?_
      refine pwp_cond (by simp only [St.eval, upd_at, Nat.reduceEqDiff, if_true, if_false, e1_0, e1_1, e1_2, e1_3, e1_10, e1_11, e1_12, e1_56, e1_57, shPV] <;> rfl) (fun c58 => ?_) (fun c58 => ?_)
      ·skip
       have hj : j < sec.length := by have := of_decide_eq_true c58; omega
       obtain ⟨ds, hds⟩ : ∃ d, sec[j]? = some d := ⟨_, List.getElem?_eq_getElem hj⟩
       have hj380 : j * (need - 1) ≤ 20 * 19 := Nat.mul_le_mul (by omega) (by omega)
       have hw79 : IntKind.i64.wrap ((j : Int) * ((need - 1 : Nat) : Int)) = ((j * (need - 1) : Nat) : Int) := by rw [← Int.natCast_mul, i64_small (by omega) (by omega)]
       refine pwp_skip ?_
       try simp only [thenK, scopeK]
       refine hN31 _ ?_
       clear hN31 N31
       refine pwp_then fun N32 hN32 => ?_
       refine pwp_block ?_
       refine pwp_then fun N33 hN33 => ?_
       refine pwp_reg fun R34 hR34 => ?_
       refine pops_mv (.inl rfl) rfl (by simp only [St.eval, upd_at, Nat.reduceEqDiff, if_true, if_false, e1_0, e1_1, e1_2, e1_3, e1_10, e1_11, e1_12, e1_56, e1_57, shPV] <;> rfl) ?_
       refine pops_mv (.inr rfl) rfl (by simp only [St.eval, upd_at, Nat.reduceEqDiff, if_true, if_false, e1_0, e1_1, e1_2, e1_3, e1_10, e1_11, e1_12, e1_56, e1_57, shPV] <;> rfl) ?_
       refine pops_done (hR34 _ ?_)
       clear hR34 R34
       try simp only [thenK, scopeK]
       refine hN33 _ ?_
       clear hN33 N33
       refine pwp_then fun N35 hN35 => ?_
       refine pwp_then fun N36 hN36 => ?_
       refine pwp_reg fun R37 hR37 => ?_
       refine pops_mv (.inl rfl) rfl (by simp only [St.eval, upd_at, Nat.reduceEqDiff, if_true, if_false, e1_0, e1_1, e1_2, e1_3, e1_10, e1_11, e1_12, e1_56, e1_57, shPV] <;> rfl) ?_
       refine pops_to rfl fun M hM => ?_
       simp only [pop, St.eval, constSlot, upd_at, Nat.reduceEqDiff, if_true, if_false, popBin, binK, intK, strK, eqK, eq_self, true_and, and_true, e1_0, e1_1, e1_2, e1_3, e1_10, e1_11, e1_12, e1_56, e1_57, shPV, hw78]
       refine hM _ _ ?_
       clear hM M
       refine pops_mv (.inr rfl) rfl (by simp only [St.eval, upd_at, Nat.reduceEqDiff, if_true, if_false, e1_0, e1_1, e1_2, e1_3, e1_10, e1_11, e1_12, e1_56, e1_57, shPV] <;> rfl) ?_
       refine pops_done (hR37 _ ?_)
       clear hR37 R37
       try simp only [thenK, scopeK]
       refine hN36 _ ?_
       clear hN36 N36
       refine pwp_block ?_
       refine pwp_loop (fun k σ => ∃ (c : Nat), ∃ (us : List UInt8), (k = c) ∧ (us.length = sec.length) ∧ (c ≤ need - 1) ∧ (us[j]? = some (evp ((nj noise need j).drop c) (UInt8.ofNat X))) ∧ (∀ q, q ≠ j → us[q]? = vs[q]?) ∧ (Keeps hp0 σ.hp ∧ RowIs 5 1 hp0 σ.hp rw1 (us.map byteCell)) ∧ (σ.env 0 = .sv (.one (pstr sec))) ∧ (σ.env 1 = .sv (.one (pstr noise))) ∧ (σ.env 2 = .sv (.one (pint (need : Nat)))) ∧ (σ.env 3 = .sv (.one (pint (many : Nat)))) ∧ (σ.env 10 = sl) ∧ (σ.env 11 = .sv (.one (pint (X : Nat)))) ∧ (σ.env 12 = rw1) ∧ (σ.env 13 = .sv (.one (pint (j : Nat)))) ∧ (σ.env 56 = .sv (.one (pint (sec.length : Nat)))) ∧ (σ.env 57 = .sv (.one (pint (j : Nat)))) ∧ (σ.env 14 = .sv (.one (pint (c : Nat))))) _ ⟨_, .refl _ _, (need - 1), vs, rfl, ?_⟩ ?_
       · exact ⟨hx1_1, Nat.le_refl _, by rw [hx1_3 j (Nat.le_refl _) hj, List.drop_eq_nil_of_le (by rw [nj_len hn hj]; exact Nat.le_refl _)]; rfl, fun _ _ => rfl, ⟨hKb.trans (Same.keeps (Same.refl _)), hob.same (Same.refl _)⟩, by simp only [upd_at, Nat.reduceEqDiff, if_true, if_false, e1_0, e1_1, e1_2, e1_3, e1_10, e1_11, e1_12, e1_56, e1_57, shPV], by simp only [upd_at, Nat.reduceEqDiff, if_true, if_false, e1_0, e1_1, e1_2, e1_3, e1_10, e1_11, e1_12, e1_56, e1_57, shPV], by simp only [upd_at, Nat.reduceEqDiff, if_true, if_false, e1_0, e1_1, e1_2, e1_3, e1_10, e1_11, e1_12, e1_56, e1_57, shPV], by simp only [upd_at, Nat.reduceEqDiff, if_true, if_false, e1_0, e1_1, e1_2, e1_3, e1_10, e1_11, e1_12, e1_56, e1_57, shPV], by simp only [upd_at, Nat.reduceEqDiff, if_true, if_false, e1_0, e1_1, e1_2, e1_3, e1_10, e1_11, e1_12, e1_56, e1_57, shPV], by simp only [upd_at, Nat.reduceEqDiff, if_true, if_false, e1_0, e1_1, e1_2, e1_3, e1_10, e1_11, e1_12, e1_56, e1_57, shPV], by simp only [upd_at, Nat.reduceEqDiff, if_true, if_false, e1_0, e1_1, e1_2, e1_3, e1_10, e1_11, e1_12, e1_56, e1_57, shPV], by simp only [upd_at, Nat.reduceEqDiff, if_true, if_false, e1_0, e1_1, e1_2, e1_3, e1_10, e1_11, e1_12, e1_56, e1_57, shPV], by simp only [upd_at, Nat.reduceEqDiff, if_true, if_false, e1_0, e1_1, e1_2, e1_3, e1_10, e1_11, e1_12, e1_56, e1_57, shPV], by simp only [upd_at, Nat.reduceEqDiff, if_true, if_false, e1_0, e1_1, e1_2, e1_3, e1_10, e1_11, e1_12, e1_56, e1_57, shPV], by first | rfl | (simp only [upd_at, Nat.reduceEqDiff, if_true, if_false]; rfl)⟩
       ·rintro k ⟨e, hp2⟩ ⟨c, us, hk2, hx2_0, hx2_1, hx2_2, hx2_3, sl2, e2_0, e2_1, e2_2, e2_3, e2_10, e2_11, e2_12, e2_13, e2_56, e2_57, e2_14⟩
        simp only at sl2 e2_0 e2_1 e2_2 e2_3 e2_10 e2_11 e2_12 e2_13 e2_56 e2_57 e2_14
        obtain ⟨hKc, hoc⟩ := sl2
        refine pwp_hpok fun hok2 => ?_
        simp only at hok2
        refine pwp_then fun N38 hN38 => ?_
        refine pwp_then fun N39 hN39 => ?_
        refine pwp_reg fun R40 hR40 => ?_
        refine pops_mv (.inl rfl) rfl (by simp only [St.eval, upd_at, Nat.reduceEqDiff, if_true, if_false, e2_0, e2_1, e2_2, e2_3, e2_10, e2_11, e2_12, e2_13, e2_56, e2_57, e2_14, shPV] <;> rfl) ?_
        refine pops_to rfl fun M hM => ?_
        simp only [pop, St.eval, constSlot, upd_at, Nat.reduceEqDiff, if_true, if_false, popBin, binK, intK, strK, eqK, eq_self, true_and, and_true, e2_0, e2_1, e2_2, e2_3, e2_10, e2_11, e2_12, e2_13, e2_56, e2_57, e2_14, shPV]
        refine hM _ _ ?_
        clear hM M
        refine pops_done (hR40 _ ?_)
        clear hR40 R40
        try simp only [thenK, scopeK]
        refine hN39 _ ?_
        clear hN39 N39
        refine pwp_cond (by simp only [St.eval, upd_at, Nat.reduceEqDiff, if_true, if_false, e2_0, e2_1, e2_2, e2_3, e2_10, e2_11, e2_12, e2_13, e2_56, e2_57, e2_14, shPV] <;> rfl) (fun c63 => ?_) (fun c63 => ?_)
        ·skip
         have hc1 : 1 ≤ c := by have := of_decide_eq_true c63; omega
         obtain ⟨c', rfl⟩ : ∃ q, c = q + 1 := ⟨c - 1, by omega⟩
         obtain ⟨d, hdn, hdj⟩ := nj_at (c := c') hn hj (by omega)
         obtain ⟨a0, ha0⟩ : ∃ a, a = evp ((nj noise need j).drop (c' + 1)) (UInt8.ofNat X) := ⟨_, rfl⟩
         rw [← ha0] at hx2_2
         have hw81 : IntKind.i64.wrap (((j * (need - 1) : Nat) : Int) + ((c' + 1 : Nat) : Int)) = ((j * (need - 1) + (c' + 1) : Nat) : Int) := by rw [i64_small (by omega) (by omega)]; omega
         have hw82 : IntKind.i64.wrap (((j * (need - 1) + (c' + 1) : Nat) : Int) - 1) = ((j * (need - 1) + c' : Nat) : Int) := by rw [i64_small (by omega) (by omega)]; omega
         have hw65 : IntKind.i64.wrap (((c' + 1 : Nat) : Int) - 1) = (c' : Int) := by rw [i64_small (by omega) (by omega)]; omega
         refine pwp_skip ?_
         try simp only [thenK, scopeK]
         refine hN38 _ ?_
         clear hN38 N38
         refine pwp_then fun N41 hN41 => ?_
         refine pwp_block ?_
         obtain ⟨id2, ver2, es2, hsl2, hl2, hbk2, htk2, hgt2⟩ := hoc.open (by rw [List.length_map]; omega)
         have hbk3 := hbk2
         rw [← ((Same.refl _)).1] at hbk3
         have hg2 : es2[j]? = some [pbyte a0] := by rw [hgt2 j (by rw [List.length_map]; omega), List.getElem?_map, hx2_2]; rfl
         refine pwp_dreg 20 mixed (by decide +kernel) fun R42 hR42 => ?_
         simp only [List.take_succ_cons, List.take_zero, List.drop_succ_cons, List.drop_zero]
         apply lex_to
         · rfl
         ·intro h' s' M hM
          simp only [pop, St.eval, constSlot, upd_at, Nat.reduceEqDiff, if_true, if_false, eq_self, true_and, and_true, str_list, str_size, str_app, str_cut, str_get, e2_0, e2_1, e2_2, e2_3, e2_10, e2_11, e2_12, e2_13, e2_56, e2_57, e2_14, shPV, hsl2, s'.1]
          exact hM _ (.refl _)
         apply lex_to
         · rfl
         ·intro h' s' M hM
          simp only [pop, St.eval, constSlot, upd_at, Nat.reduceEqDiff, if_true, if_false, eq_self, true_and, and_true, str_list, str_size, str_app, str_cut, str_get, e2_0, e2_1, e2_2, e2_3, e2_10, e2_11, e2_12, e2_13, e2_56, e2_57, e2_14, shPV, hsl2, s'.1]
          exact hM _ (.refl _)
         apply lex_to
         · rfl
         ·intro h' s' M hM
          simp only [pop, St.eval, constSlot, upd_at, Nat.reduceEqDiff, if_true, if_false, eq_self, true_and, and_true, str_list, str_size, str_app, str_cut, str_get, e2_0, e2_1, e2_2, e2_3, e2_10, e2_11, e2_12, e2_13, e2_56, e2_57, e2_14, shPV, hsl2, s'.1]
          exact hM _ (.refl _)
         apply lex_to
         · rfl
         ·intro h' s' M hM
          simp only [pop, St.eval, constSlot, upd_at, Nat.reduceEqDiff, if_true, if_false, eq_self, true_and, and_true, str_list, str_size, str_app, str_cut, str_get, e2_0, e2_1, e2_2, e2_3, e2_10, e2_11, e2_12, e2_13, e2_56, e2_57, e2_14, shPV, hsl2, s'.1]
          exact hM _ (.refl _)
         apply lex_to
         · rfl
         ·intro h' s' M hM
          simp only [pop, St.eval, constSlot, upd_at, Nat.reduceEqDiff, if_true, if_false, popIndexAddr, Tryd.underlying36, sz5, eq_self, true_and, and_true, str_list, str_size, str_app, str_cut, str_get, e2_0, e2_1, e2_2, e2_3, e2_10, e2_11, e2_12, e2_13, e2_56, e2_57, e2_14, shPV, hsl2, hbk3, Int.toNat_natCast, Nat.zero_add, List.length_map, s'.1]
          refine ⟨Int.natCast_nonneg _, by omega, ?_⟩
          exact hM _ (.refl _)
         apply lex_to
         · rfl
         ·intro h' s' M hM
          simp only [pop, St.eval, constSlot, upd_at, Nat.reduceEqDiff, if_true, if_false, popLoad, loadK, isAggD, List.drop_zero, List.getElem?_toArray, List.getElem?_cons_zero, List.getElem?_cons_succ, Bool.false_eq_true, Tryd.underlying5, sz5, eq_self, true_and, and_true, e2_0, e2_1, e2_2, e2_3, e2_10, e2_11, e2_12, e2_13, e2_56, e2_57, e2_14, shPV, hsl2, hbk3, hg2, s'.1]
          exact hM _ (.refl _)
         apply lex_to
         · rfl
         ·intro h' s' M hM
          simp only [pop, St.eval, constSlot, upd_at, Nat.reduceEqDiff, if_true, if_false, eq_self, true_and, and_true, str_list, str_size, str_app, str_cut, str_get, e2_0, e2_1, e2_2, e2_3, e2_10, e2_11, e2_12, e2_13, e2_56, e2_57, e2_14, shPV, hsl2, s'.1]
          exact hM _ (.refl _)
         apply lex_to
         · rfl
         ·intro h' s' M hM
          simp only [pop, St.eval, constSlot, upd_at, Nat.reduceEqDiff, if_true, if_false, popConvert, Tryd.underlying3, Tryd.underlying5, eq_self, true_and, and_true, str_list, str_size, str_app, str_cut, str_get, e2_0, e2_1, e2_2, e2_3, e2_10, e2_11, e2_12, e2_13, e2_56, e2_57, e2_14, shPV, hsl2, u8_nat (X := X) (by omega), s'.1]
          exact hM _ (.refl _)
         apply lex_to
         · rfl
         ·intro h' s' M hM
          simp only [pop, St.eval, constSlot, upd_at, Nat.reduceEqDiff, if_true, if_false, popCall, List.toList_toArray, List.map_cons, List.map_nil, svs, List.mapM_cons, List.mapM_nil, Option.bind_eq_bind, Option.bind_some, Option.pure_def, List.append_nil, List.cons_append, List.nil_append, str_size, e2_0, e2_1, e2_2, e2_3, e2_10, e2_11, e2_12, e2_13, e2_56, e2_57, e2_14, shPV, hsl2, s'.1]
          refine PFun.use (times_fun W0 a0 (UInt8.ofNat X)) fun hp s => hM _ s
         apply lex_to
         · rfl
         ·intro h' s' M hM
          simp only [pop, St.eval, constSlot, upd_at, Nat.reduceEqDiff, if_true, if_false, eq_self, true_and, and_true, str_list, str_size, str_app, str_cut, str_get, e2_0, e2_1, e2_2, e2_3, e2_10, e2_11, e2_12, e2_13, e2_56, e2_57, e2_14, shPV, hsl2, s'.1]
          exact hM _ (.refl _)
         apply lex_to
         · rfl
         ·intro h' s' M hM
          simp only [pop, St.eval, constSlot, upd_at, Nat.reduceEqDiff, if_true, if_false, eq_self, true_and, and_true, str_list, str_size, str_app, str_cut, str_get, e2_0, e2_1, e2_2, e2_3, e2_10, e2_11, e2_12, e2_13, e2_56, e2_57, e2_14, shPV, hsl2, s'.1]
          exact hM _ (.refl _)
         apply lex_to
         · rfl
         ·intro h' s' M hM
          simp only [pop, St.eval, constSlot, upd_at, Nat.reduceEqDiff, if_true, if_false, eq_self, true_and, and_true, str_list, str_size, str_app, str_cut, str_get, e2_0, e2_1, e2_2, e2_3, e2_10, e2_11, e2_12, e2_13, e2_56, e2_57, e2_14, shPV, hsl2, s'.1]
          exact hM _ (.refl _)
         apply lex_to
         · rfl
         ·intro h' s' M hM
          simp only [pop, St.eval, constSlot, upd_at, Nat.reduceEqDiff, if_true, if_false, popBin, binK, intK, strK, eqK, eq_self, true_and, and_true, e2_0, e2_1, e2_2, e2_3, e2_10, e2_11, e2_12, e2_13, e2_56, e2_57, e2_14, shPV, hsl2, hw78, s'.1]
          exact hM _ (.refl _)
         apply lex_to
         · rfl
         ·intro h' s' M hM
          simp only [pop, St.eval, constSlot, upd_at, Nat.reduceEqDiff, if_true, if_false, popBin, binK, intK, strK, eqK, eq_self, true_and, and_true, e2_0, e2_1, e2_2, e2_3, e2_10, e2_11, e2_12, e2_13, e2_56, e2_57, e2_14, shPV, hsl2, hw79, s'.1]
          exact hM _ (.refl _)
         apply lex_to
         · rfl
         ·intro h' s' M hM
          simp only [pop, St.eval, constSlot, upd_at, Nat.reduceEqDiff, if_true, if_false, eq_self, true_and, and_true, str_list, str_size, str_app, str_cut, str_get, e2_0, e2_1, e2_2, e2_3, e2_10, e2_11, e2_12, e2_13, e2_56, e2_57, e2_14, shPV, hsl2, s'.1]
          exact hM _ (.refl _)
         apply lex_to
         · rfl
         ·intro h' s' M hM
          simp only [pop, St.eval, constSlot, upd_at, Nat.reduceEqDiff, if_true, if_false, popBin, binK, intK, strK, eqK, eq_self, true_and, and_true, e2_0, e2_1, e2_2, e2_3, e2_10, e2_11, e2_12, e2_13, e2_56, e2_57, e2_14, shPV, hsl2, hw81, s'.1]
          exact hM _ (.refl _)
         apply lex_to
         · rfl
         ·intro h' s' M hM
          simp only [pop, St.eval, constSlot, upd_at, Nat.reduceEqDiff, if_true, if_false, popBin, binK, intK, strK, eqK, eq_self, true_and, and_true, e2_0, e2_1, e2_2, e2_3, e2_10, e2_11, e2_12, e2_13, e2_56, e2_57, e2_14, shPV, hsl2, hw82, s'.1]
          exact hM _ (.refl _)
         apply lex_to
         · rfl
         ·intro h' s' M hM
          simp only [pop, St.eval, constSlot, upd_at, Nat.reduceEqDiff, if_true, if_false, popIndex, partK, Tryd.underlying9, eq_self, true_and, and_true, str_list, str_size, str_app, str_cut, str_get, e2_0, e2_1, e2_2, e2_3, e2_10, e2_11, e2_12, e2_13, e2_56, e2_57, e2_14, shPV, hsl2, hdn, Int.toNat_natCast, s'.1]
          refine ⟨Int.natCast_nonneg _, ?_⟩
          exact hM _ (.refl _)
         apply lex_to
         · rfl
         ·intro h' s' M hM
          simp only [pop, St.eval, constSlot, upd_at, Nat.reduceEqDiff, if_true, if_false, popBin, binK, intK, strK, eqK, eq_self, true_and, and_true, e2_0, e2_1, e2_2, e2_3, e2_10, e2_11, e2_12, e2_13, e2_56, e2_57, e2_14, shPV, hsl2, u8_xor, s'.1]
          exact hM _ (.refl _)
         apply lex_to
         · rfl
         ·intro h' s' M hM
          simp only [pop, St.eval, constSlot, upd_at, Nat.reduceEqDiff, if_true, if_false, popIndexAddr, Tryd.underlying36, sz5, eq_self, true_and, and_true, str_list, str_size, str_app, str_cut, str_get, e2_0, e2_1, e2_2, e2_3, e2_10, e2_11, e2_12, e2_13, e2_56, e2_57, e2_14, shPV, hsl2, hbk3, Int.toNat_natCast, Nat.zero_add, List.length_map, s'.1]
          refine ⟨Int.natCast_nonneg _, by omega, ?_⟩
          exact hM _ (.refl _)
         refine lex_done fun hq sq => ?_
         skip
         refine pops_no fun M hM => ?_
         simp only [pop, St.eval, constSlot, upd_at, Nat.reduceEqDiff, if_true, if_false, eq_self, true_and, and_true, str_list, str_size, str_app, str_cut, str_get, e2_0, e2_1, e2_2, e2_3, e2_10, e2_11, e2_12, e2_13, e2_56, e2_57, e2_14, shPV, hsl2]
         refine el_store (ElAt.same ⟨hsl2, hl2, hbk2, htk2, by rw [List.length_map]; omega⟩ sq) hok0 (hKc.trans (Same.keeps sq)) (c := byteCell a0) (by rw [List.getElem?_map, hx2_2]; rfl) rfl sz5 (Nat.le_refl 1) fun hp6 ho6 hk6 => hM _ _ ?_
         replace ho6 := (set_byte us j a0 _) ▸ ho6
         clear hM M
         refine pops_done (hR42 _ ?_)
         clear hR42 R42
         try simp only [blockK, thenK, scopeK]
         try simp only [thenK, scopeK]
         refine hN41 _ ?_
         clear hN41 N41
         refine pwp_reg fun R43 hR43 => ?_
         refine pops_mv (.inl rfl) rfl (by simp only [St.eval, upd_at, Nat.reduceEqDiff, if_true, if_false, e2_0, e2_1, e2_2, e2_3, e2_10, e2_11, e2_12, e2_13, e2_56, e2_57, e2_14, shPV, hsl2] <;> rfl) ?_
         refine pops_to rfl fun M hM => ?_
         simp only [pop, St.eval, constSlot, upd_at, Nat.reduceEqDiff, if_true, if_false, popBin, binK, intK, strK, eqK, eq_self, true_and, and_true, e2_0, e2_1, e2_2, e2_3, e2_10, e2_11, e2_12, e2_13, e2_56, e2_57, e2_14, shPV, hsl2, hw65]
         refine hM _ _ ?_
         clear hM M
         refine pops_mv (.inr rfl) rfl (by simp only [St.eval, upd_at, Nat.reduceEqDiff, if_true, if_false, e2_0, e2_1, e2_2, e2_3, e2_10, e2_11, e2_12, e2_13, e2_56, e2_57, e2_14, shPV, hsl2] <;> rfl) ?_
         refine pops_done (hR43 _ ?_)
         clear hR43 R43
         try simp only [thenK, scopeK]
         exact ⟨_, by omega, _, .refl _ _, c', (us.set j (Gf.gm a0 (UInt8.ofNat X) ^^^ d)), rfl, by rw [List.length_set]; exact hx2_0, by omega, by rw [List.getElem?_set_self (by omega), ev_drop hdj, ← ha0], fun q hq => by rw [List.getElem?_set_ne (by omega)]; exact hx2_3 q hq, ⟨hk6.trans (Same.keeps (Same.refl _)), ho6.same (Same.refl _)⟩, by simp only [upd_at, Nat.reduceEqDiff, if_true, if_false, e2_0, e2_1, e2_2, e2_3, e2_10, e2_11, e2_12, e2_13, e2_56, e2_57, e2_14, shPV, hsl2], by simp only [upd_at, Nat.reduceEqDiff, if_true, if_false, e2_0, e2_1, e2_2, e2_3, e2_10, e2_11, e2_12, e2_13, e2_56, e2_57, e2_14, shPV, hsl2], by simp only [upd_at, Nat.reduceEqDiff, if_true, if_false, e2_0, e2_1, e2_2, e2_3, e2_10, e2_11, e2_12, e2_13, e2_56, e2_57, e2_14, shPV, hsl2], by simp only [upd_at, Nat.reduceEqDiff, if_true, if_false, e2_0, e2_1, e2_2, e2_3, e2_10, e2_11, e2_12, e2_13, e2_56, e2_57, e2_14, shPV, hsl2], by simp only [upd_at, Nat.reduceEqDiff, if_true, if_false, e2_0, e2_1, e2_2, e2_3, e2_10, e2_11, e2_12, e2_13, e2_56, e2_57, e2_14, shPV, hsl2], by simp only [upd_at, Nat.reduceEqDiff, if_true, if_false, e2_0, e2_1, e2_2, e2_3, e2_10, e2_11, e2_12, e2_13, e2_56, e2_57, e2_14, shPV, hsl2], by simp only [upd_at, Nat.reduceEqDiff, if_true, if_false, e2_0, e2_1, e2_2, e2_3, e2_10, e2_11, e2_12, e2_13, e2_56, e2_57, e2_14, shPV, hsl2], by simp only [upd_at, Nat.reduceEqDiff, if_true, if_false, e2_0, e2_1, e2_2, e2_3, e2_10, e2_11, e2_12, e2_13, e2_56, e2_57, e2_14, shPV, hsl2], by simp only [upd_at, Nat.reduceEqDiff, if_true, if_false, e2_0, e2_1, e2_2, e2_3, e2_10, e2_11, e2_12, e2_13, e2_56, e2_57, e2_14, shPV, hsl2], by simp only [upd_at, Nat.reduceEqDiff, if_true, if_false, e2_0, e2_1, e2_2, e2_3, e2_10, e2_11, e2_12, e2_13, e2_56, e2_57, e2_14, shPV, hsl2], by simp only [upd_at, Nat.reduceEqDiff, if_true, if_false, e2_0, e2_1, e2_2, e2_3, e2_10, e2_11, e2_12, e2_13, e2_56, e2_57, e2_14, shPV, hsl2]⟩
        ·skip
         have hc0 : c = 0 := by have := of_decide_eq_false c63; omega
         refine pwp_exit ?_
         try simp only [thenK, blockK, scopeK, if_true, Nat.reduceEqDiff, if_false]
         clear hN38 N38
         try simp only [blockK, scopeK, if_true, Nat.reduceEqDiff, if_false, thenK]
         try simp only [thenK, scopeK]
         refine hN35 _ ?_
         clear hN35 N35
         obtain rfl : c = 0 := by omega
         rw [List.drop_zero] at hx2_2
         obtain ⟨a1, ha1⟩ : ∃ a, a = evp (nj noise need j) (UInt8.ofNat X) := ⟨_, rfl⟩
         rw [← ha1] at hx2_2
         obtain ⟨id2, ver2, es2, hsl2, hl2, hbk2, htk2, hgt2⟩ := hoc.open (by rw [List.length_map]; omega)
         have hbk3 := hbk2
         rw [← ((Same.refl _)).1] at hbk3
         have hg2 : es2[j]? = some [pbyte a1] := by rw [hgt2 j (by rw [List.length_map]; omega), List.getElem?_map, hx2_2]; rfl
         refine pwp_dreg 14 mixed (by decide +kernel) fun R44 hR44 => ?_
         simp only [List.take_succ_cons, List.take_zero, List.drop_succ_cons, List.drop_zero]
         apply lex_to
         · rfl
         ·intro h' s' M hM
          simp only [pop, St.eval, constSlot, upd_at, Nat.reduceEqDiff, if_true, if_false, eq_self, true_and, and_true, str_list, str_size, str_app, str_cut, str_get, e2_0, e2_1, e2_2, e2_3, e2_10, e2_11, e2_12, e2_13, e2_56, e2_57, e2_14, shPV, hsl2, s'.1]
          exact hM _ (.refl _)
         apply lex_to
         · rfl
         ·intro h' s' M hM
          simp only [pop, St.eval, constSlot, upd_at, Nat.reduceEqDiff, if_true, if_false, eq_self, true_and, and_true, str_list, str_size, str_app, str_cut, str_get, e2_0, e2_1, e2_2, e2_3, e2_10, e2_11, e2_12, e2_13, e2_56, e2_57, e2_14, shPV, hsl2, s'.1]
          exact hM _ (.refl _)
         apply lex_to
         · rfl
         ·intro h' s' M hM
          simp only [pop, St.eval, constSlot, upd_at, Nat.reduceEqDiff, if_true, if_false, eq_self, true_and, and_true, str_list, str_size, str_app, str_cut, str_get, e2_0, e2_1, e2_2, e2_3, e2_10, e2_11, e2_12, e2_13, e2_56, e2_57, e2_14, shPV, hsl2, s'.1]
          exact hM _ (.refl _)
         apply lex_to
         · rfl
         ·intro h' s' M hM
          simp only [pop, St.eval, constSlot, upd_at, Nat.reduceEqDiff, if_true, if_false, eq_self, true_and, and_true, str_list, str_size, str_app, str_cut, str_get, e2_0, e2_1, e2_2, e2_3, e2_10, e2_11, e2_12, e2_13, e2_56, e2_57, e2_14, shPV, hsl2, s'.1]
          exact hM _ (.refl _)
         apply lex_to
         · rfl
         ·intro h' s' M hM
          simp only [pop, St.eval, constSlot, upd_at, Nat.reduceEqDiff, if_true, if_false, popIndexAddr, Tryd.underlying36, sz5, eq_self, true_and, and_true, str_list, str_size, str_app, str_cut, str_get, e2_0, e2_1, e2_2, e2_3, e2_10, e2_11, e2_12, e2_13, e2_56, e2_57, e2_14, shPV, hsl2, hbk3, Int.toNat_natCast, Nat.zero_add, List.length_map, s'.1]
          refine ⟨Int.natCast_nonneg _, by omega, ?_⟩
          exact hM _ (.refl _)
         apply lex_to
         · rfl
         ·intro h' s' M hM
          simp only [pop, St.eval, constSlot, upd_at, Nat.reduceEqDiff, if_true, if_false, popLoad, loadK, isAggD, List.drop_zero, List.getElem?_toArray, List.getElem?_cons_zero, List.getElem?_cons_succ, Bool.false_eq_true, Tryd.underlying5, sz5, eq_self, true_and, and_true, e2_0, e2_1, e2_2, e2_3, e2_10, e2_11, e2_12, e2_13, e2_56, e2_57, e2_14, shPV, hsl2, hbk3, hg2, s'.1]
          exact hM _ (.refl _)
         apply lex_to
         · rfl
         ·intro h' s' M hM
          simp only [pop, St.eval, constSlot, upd_at, Nat.reduceEqDiff, if_true, if_false, eq_self, true_and, and_true, str_list, str_size, str_app, str_cut, str_get, e2_0, e2_1, e2_2, e2_3, e2_10, e2_11, e2_12, e2_13, e2_56, e2_57, e2_14, shPV, hsl2, s'.1]
          exact hM _ (.refl _)
         apply lex_to
         · rfl
         ·intro h' s' M hM
          simp only [pop, St.eval, constSlot, upd_at, Nat.reduceEqDiff, if_true, if_false, popConvert, Tryd.underlying3, Tryd.underlying5, eq_self, true_and, and_true, str_list, str_size, str_app, str_cut, str_get, e2_0, e2_1, e2_2, e2_3, e2_10, e2_11, e2_12, e2_13, e2_56, e2_57, e2_14, shPV, hsl2, u8_nat (X := X) (by omega), s'.1]
          exact hM _ (.refl _)
         apply lex_to
         · rfl
         ·intro h' s' M hM
          simp only [pop, St.eval, constSlot, upd_at, Nat.reduceEqDiff, if_true, if_false, popCall, List.toList_toArray, List.map_cons, List.map_nil, svs, List.mapM_cons, List.mapM_nil, Option.bind_eq_bind, Option.bind_some, Option.pure_def, List.append_nil, List.cons_append, List.nil_append, str_size, e2_0, e2_1, e2_2, e2_3, e2_10, e2_11, e2_12, e2_13, e2_56, e2_57, e2_14, shPV, hsl2, s'.1]
          refine PFun.use (times_fun W0 a1 (UInt8.ofNat X)) fun hp s => hM _ s
         apply lex_to
         · rfl
         ·intro h' s' M hM
          simp only [pop, St.eval, constSlot, upd_at, Nat.reduceEqDiff, if_true, if_false, eq_self, true_and, and_true, str_list, str_size, str_app, str_cut, str_get, e2_0, e2_1, e2_2, e2_3, e2_10, e2_11, e2_12, e2_13, e2_56, e2_57, e2_14, shPV, hsl2, s'.1]
          exact hM _ (.refl _)
         apply lex_to
         · rfl
         ·intro h' s' M hM
          simp only [pop, St.eval, constSlot, upd_at, Nat.reduceEqDiff, if_true, if_false, eq_self, true_and, and_true, str_list, str_size, str_app, str_cut, str_get, e2_0, e2_1, e2_2, e2_3, e2_10, e2_11, e2_12, e2_13, e2_56, e2_57, e2_14, shPV, hsl2, s'.1]
          exact hM _ (.refl _)
         apply lex_to
         · rfl
         ·intro h' s' M hM
          simp only [pop, St.eval, constSlot, upd_at, Nat.reduceEqDiff, if_true, if_false, popIndex, partK, Tryd.underlying9, eq_self, true_and, and_true, str_list, str_size, str_app, str_cut, str_get, e2_0, e2_1, e2_2, e2_3, e2_10, e2_11, e2_12, e2_13, e2_56, e2_57, e2_14, shPV, hsl2, hds, Int.toNat_natCast, s'.1]
          refine ⟨Int.natCast_nonneg _, ?_⟩
          exact hM _ (.refl _)
         apply lex_to
         · rfl
         ·intro h' s' M hM
          simp only [pop, St.eval, constSlot, upd_at, Nat.reduceEqDiff, if_true, if_false, popBin, binK, intK, strK, eqK, eq_self, true_and, and_true, e2_0, e2_1, e2_2, e2_3, e2_10, e2_11, e2_12, e2_13, e2_56, e2_57, e2_14, shPV, hsl2, u8_xor, s'.1]
          exact hM _ (.refl _)
         apply lex_to
         · rfl
         ·intro h' s' M hM
          simp only [pop, St.eval, constSlot, upd_at, Nat.reduceEqDiff, if_true, if_false, popIndexAddr, Tryd.underlying36, sz5, eq_self, true_and, and_true, str_list, str_size, str_app, str_cut, str_get, e2_0, e2_1, e2_2, e2_3, e2_10, e2_11, e2_12, e2_13, e2_56, e2_57, e2_14, shPV, hsl2, hbk3, Int.toNat_natCast, Nat.zero_add, List.length_map, s'.1]
          refine ⟨Int.natCast_nonneg _, by omega, ?_⟩
          exact hM _ (.refl _)
         refine lex_done fun hq2 sq2 => ?_
         skip
         refine pops_no fun M hM => ?_
         simp only [pop, St.eval, constSlot, upd_at, Nat.reduceEqDiff, if_true, if_false, eq_self, true_and, and_true, str_list, str_size, str_app, str_cut, str_get, e2_0, e2_1, e2_2, e2_3, e2_10, e2_11, e2_12, e2_13, e2_56, e2_57, e2_14, shPV, hsl2]
         refine el_store (ElAt.same ⟨hsl2, hl2, hbk2, htk2, by rw [List.length_map]; omega⟩ sq2) hok0 (hKc.trans (Same.keeps sq2)) (c := byteCell a1) (by rw [List.getElem?_map, hx2_2]; rfl) rfl sz5 (Nat.le_refl 1) fun hp7 ho7 hk7 => hM _ _ ?_
         replace ho7 := (set_byte us j a1 _) ▸ ho7
         clear hM M
         refine pops_done (hR44 _ ?_)
         clear hR44 R44
         try simp only [blockK, thenK, scopeK]
         try simp only [thenK, scopeK]
         refine hN32 _ ?_
         clear hN32 N32
         refine pwp_reg fun R45 hR45 => ?_
         refine pops_to rfl fun M hM => ?_
         simp only [pop, St.eval, constSlot, upd_at, Nat.reduceEqDiff, if_true, if_false, popBin, binK, intK, strK, eqK, eq_self, true_and, and_true, e2_0, e2_1, e2_2, e2_3, e2_10, e2_11, e2_12, e2_13, e2_56, e2_57, e2_14, shPV, hsl2]
         refine hM _ _ ?_
         clear hM M
         refine pops_mv (.inl rfl) rfl (by simp only [St.eval, upd_at, Nat.reduceEqDiff, if_true, if_false, e2_0, e2_1, e2_2, e2_3, e2_10, e2_11, e2_12, e2_13, e2_56, e2_57, e2_14, shPV, hsl2] <;> rfl) ?_
         refine pops_done (hR45 _ ?_)
         clear hR45 R45
         try simp only [thenK, scopeK]
         exact ⟨_, by omega, _, .refl _ _, j + 1, (us.set j (Gf.gm a1 (UInt8.ofNat X) ^^^ ds)), rfl, by omega, by rw [List.length_set]; exact hx2_0, fun q hq => by
           rcases Nat.lt_or_ge q j with h | h
           · rw [List.getElem?_set_ne (by omega), hx2_3 q (by omega)]; exact hx1_2 q h
           · obtain rfl : q = j := by omega
             rw [List.getElem?_set_self (by omega), polyV, List.getD_eq_getElem?_getD, hds, ha1]; rfl, fun q g1 g2 => by rw [List.getElem?_set_ne (by omega), hx2_3 q (by omega)]; exact hx1_3 q (by omega) g2, ⟨hk7.trans (Same.keeps (Same.refl _)), ho7.same (Same.refl _)⟩, by simp only [upd_at, Nat.reduceEqDiff, if_true, if_false, e2_0, e2_1, e2_2, e2_3, e2_10, e2_11, e2_12, e2_13, e2_56, e2_57, e2_14, shPV, hsl2], by simp only [upd_at, Nat.reduceEqDiff, if_true, if_false, e2_0, e2_1, e2_2, e2_3, e2_10, e2_11, e2_12, e2_13, e2_56, e2_57, e2_14, shPV, hsl2], by simp only [upd_at, Nat.reduceEqDiff, if_true, if_false, e2_0, e2_1, e2_2, e2_3, e2_10, e2_11, e2_12, e2_13, e2_56, e2_57, e2_14, shPV, hsl2], by simp only [upd_at, Nat.reduceEqDiff, if_true, if_false, e2_0, e2_1, e2_2, e2_3, e2_10, e2_11, e2_12, e2_13, e2_56, e2_57, e2_14, shPV, hsl2], by simp only [upd_at, Nat.reduceEqDiff, if_true, if_false, e2_0, e2_1, e2_2, e2_3, e2_10, e2_11, e2_12, e2_13, e2_56, e2_57, e2_14, shPV, hsl2], by simp only [upd_at, Nat.reduceEqDiff, if_true, if_false, e2_0, e2_1, e2_2, e2_3, e2_10, e2_11, e2_12, e2_13, e2_56, e2_57, e2_14, shPV, hsl2], by simp only [upd_at, Nat.reduceEqDiff, if_true, if_false, e2_0, e2_1, e2_2, e2_3, e2_10, e2_11, e2_12, e2_13, e2_56, e2_57, e2_14, shPV, hsl2], by simp only [upd_at, Nat.reduceEqDiff, if_true, if_false, e2_0, e2_1, e2_2, e2_3, e2_10, e2_11, e2_12, e2_13, e2_56, e2_57, e2_14, shPV, hsl2], by simp only [upd_at, Nat.reduceEqDiff, if_true, if_false, e1_57]; rw [wrap_succ (by omega)]⟩
      ·skip
       obtain rfl : j = sec.length := by have := of_decide_eq_false c58; omega
       obtain rfl := pts_all hx1_1 hx1_2
       refine pwp_exit ?_
       try simp only [thenK, blockK, scopeK, if_true, Nat.reduceEqDiff, if_false]
       clear hN31 N31
       try simp only [blockK, scopeK, if_true, Nat.reduceEqDiff, if_false, thenK]
       try simp only [thenK, scopeK]
       refine hN26 _ ?_
       clear hN26 N26
       refine pwp_reg fun R46 hR46 => ?_
       refine pops_mv (.inl rfl) rfl (by simp only [St.eval, upd_at, Nat.reduceEqDiff, if_true, if_false, e1_0, e1_1, e1_2, e1_3, e1_10, e1_11, e1_12, e1_56, e1_57, shPV] <;> rfl) ?_
       refine pops_mv (.inl rfl) rfl (by simp only [St.eval, upd_at, Nat.reduceEqDiff, if_true, if_false, e1_0, e1_1, e1_2, e1_3, e1_10, e1_11, e1_12, e1_56, e1_57, shPV] <;> rfl) ?_
       refine pops_mv (.inl rfl) rfl (by simp only [St.eval, upd_at, Nat.reduceEqDiff, if_true, if_false, e1_0, e1_1, e1_2, e1_3, e1_10, e1_11, e1_12, e1_56, e1_57, shPV] <;> rfl) ?_
       refine pops_to rfl fun M hM => ?_
       simp only [pop, St.eval, constSlot, upd_at, Nat.reduceEqDiff, if_true, if_false, eq_self, true_and, and_true, str_list, str_size, str_app, str_cut, str_get, e1_0, e1_1, e1_2, e1_3, e1_10, e1_11, e1_12, e1_56, e1_57, shPV]
       refine row_str Tryd.underlying9 Tryd.underlying36 Tryd.underlying5 (hob.same (Same.refl _)) (hM _ _ ?_)
       clear hM M
       refine pops_to rfl fun M hM => ?_
       simp only [pop, St.eval, constSlot, upd_at, Nat.reduceEqDiff, if_true, if_false, fillP, slotCells, splice, List.toList_toArray, List.map_cons, List.map_nil, List.length_cons, List.length_nil, Nat.zero_add, Nat.reduceAdd, Nat.reduceLeDiff, List.take_zero, List.take_succ_cons, List.take_nil, List.drop_succ_cons, List.drop_zero, List.drop_nil, List.nil_append, List.cons_append, List.append_nil, and_self, List.getElem?_cons_zero, List.getElem?_cons_succ, List.set_cons_zero, List.set_cons_succ, Option.some.injEq, bd30, eq_self, true_and, and_true, str_list, str_size, str_app, str_cut, str_get, e1_0, e1_1, e1_2, e1_3, e1_10, e1_11, e1_12, e1_56, e1_57, shPV]
       refine hM _ _ ?_
       clear hM M
       refine pops_to rfl fun M hM => ?_
       simp only [pop, St.eval, constSlot, upd_at, Nat.reduceEqDiff, if_true, if_false, popBuildSlice, slotCells, List.toList_toArray, List.map_cons, List.map_nil, List.mapM_cons, List.mapM_nil, Option.bind_eq_bind, Option.bind_some, Option.pure_def, Tryd.underlying25, sz30, ze30, by30, eq_self, true_and, and_true, str_list, str_size, str_app, str_cut, str_get, e1_0, e1_1, e1_2, e1_3, e1_10, e1_11, e1_12, e1_56, e1_57, shPV]
       refine ⟨by decide, by decide, rfl, rfl, by simp, by decide, rfl, hM _ _ ?_⟩
       clear hM M
       refine pops_to rfl fun M hM => ?_
       simp only [pop, St.eval, constSlot, upd_at, Nat.reduceEqDiff, if_true, if_false, popCall, List.toList_toArray, List.map_cons, List.map_nil, popBuiltin, eq_self, true_and, and_true, str_list, str_size, str_app, str_cut, str_get, e1_0, e1_1, e1_2, e1_3, e1_10, e1_11, e1_12, e1_56, e1_57, shPV]
       refine row_app (ys := [[.val (.int .i64 (X : Int)), pstr (ptsV sec noise need (UInt8.ofNat X))]]) hb Tryd.underlying25 sz30 by30 ze30 rfl (by decide) ((hoa.keeps hKb).same (Same.refl _)) ((hKa.trans hKb).trans (Same.keeps (Same.refl _))) rfl (.inr rfl) ⟨by simp only [List.length_map, List.length_cons, List.length_nil, shU, List.length_range]; omega, by simp only [List.length_map, List.length_cons, List.length_nil, shU, List.length_range]; omega⟩ fun sl2 hp9 ho9 hk9 => hM _ _ ?_
       clear hM M
       refine pops_mv (.inr rfl) rfl (by simp only [St.eval, upd_at, Nat.reduceEqDiff, if_true, if_false, e1_0, e1_1, e1_2, e1_3, e1_10, e1_11, e1_12, e1_56, e1_57, shPV] <;> rfl) ?_
       refine pops_done (hR46 _ ?_)
       clear hR46 R46
       try simp only [blockK, thenK, scopeK]
       try simp only [thenK, scopeK]
       refine hN23 _ ?_
       clear hN23 N23
       refine pwp_reg fun R47 hR47 => ?_
       refine pops_mv (.inl rfl) rfl (by simp only [St.eval, upd_at, Nat.reduceEqDiff, if_true, if_false, e1_0, e1_1, e1_2, e1_3, e1_10, e1_11, e1_12, e1_56, e1_57, shPV] <;> rfl) ?_
       refine pops_to rfl fun M hM => ?_
       simp only [pop, St.eval, constSlot, upd_at, Nat.reduceEqDiff, if_true, if_false, popBin, binK, intK, strK, eqK, eq_self, true_and, and_true, e1_0, e1_1, e1_2, e1_3, e1_10, e1_11, e1_12, e1_56, e1_57, shPV]
       refine hM _ _ ?_
       clear hM M
       refine pops_mv (.inr rfl) rfl (by simp only [St.eval, upd_at, Nat.reduceEqDiff, if_true, if_false, e1_0, e1_1, e1_2, e1_3, e1_10, e1_11, e1_12, e1_56, e1_57, shPV] <;> rfl) ?_
       refine pops_done (hR47 _ ?_)
       clear hR47 R47
       try simp only [thenK, scopeK]
       exact ⟨_, by omega, _, .refl _ _, X + 1, sl2, rfl, by omega, by omega, ⟨hk9.trans (Same.keeps (Same.refl _)), by obtain ⟨Y, rfl⟩ : ∃ q, X = q + 1 := ⟨X - 1, by omega⟩; rw [show Y + 1 + 1 - 1 = Y + 1 from rfl, shU_succ, List.map_append, List.map_cons, List.map_nil, shPV_k (by omega)]; exact ho9.same (Same.refl _)⟩, by simp only [upd_at, Nat.reduceEqDiff, if_true, if_false, e1_0, e1_1, e1_2, e1_3, e1_10, e1_11, e1_12, e1_56, e1_57, shPV], by simp only [upd_at, Nat.reduceEqDiff, if_true, if_false, e1_0, e1_1, e1_2, e1_3, e1_10, e1_11, e1_12, e1_56, e1_57, shPV], by simp only [upd_at, Nat.reduceEqDiff, if_true, if_false, e1_0, e1_1, e1_2, e1_3, e1_10, e1_11, e1_12, e1_56, e1_57, shPV], by simp only [upd_at, Nat.reduceEqDiff, if_true, if_false, e1_0, e1_1, e1_2, e1_3, e1_10, e1_11, e1_12, e1_56, e1_57, shPV], by simp only [upd_at, Nat.reduceEqDiff, if_true, if_false, e1_0, e1_1, e1_2, e1_3, e1_10, e1_11, e1_12, e1_56, e1_57, shPV], by simp only [upd_at, Nat.reduceEqDiff, if_true, if_false, e0_11]; rw [wrap_succ (by omega)]⟩
    ·skip
     obtain rfl : X = many + 1 := by have := of_decide_eq_false c49; omega
     obtain ⟨p9, rfl⟩ := hoa.one
     refine pwp_exit ?_
     try simp only [thenK, blockK, scopeK, if_true, Nat.reduceEqDiff, if_false]
     clear hN20 N20
     try simp only [blockK, scopeK, if_true, Nat.reduceEqDiff, if_false, thenK]
     try simp only [thenK, scopeK]
     refine hN17 _ ?_
     clear hN17 N17
     refine pwp_then fun N48 hN48 => ?_
     refine pwp_reg fun R49 hR49 => ?_
     refine pops_mv (.inl rfl) rfl (by simp only [St.eval, upd_at, Nat.reduceEqDiff, if_true, if_false, e0_0, e0_1, e0_2, e0_3, e0_10, e0_11, shPV] <;> rfl) ?_
     refine pops_mv (.inr rfl) rfl (by simp only [St.eval, upd_at, Nat.reduceEqDiff, if_true, if_false, e0_0, e0_1, e0_2, e0_3, e0_10, e0_11, shPV] <;> rfl) ?_
     refine pops_mv (.inr rfl) rfl (by simp only [St.eval, constSlot] <;> rfl) ?_
     refine pops_done (hR49 _ ?_)
     clear hR49 R49
     try simp only [thenK, scopeK]
     refine hN48 _ ?_
     clear hN48 N48
     refine pwp_ret ?_
     simp only [thenK, blockK, scopeK, bodyK]
     obtain ⟨r', h', hw, e, hs9⟩ := endRow2 (W0 := W0) (b := .one (pint 0)) rfl rfl (fun w h m h' v x y => SVR.ext y x) (hoa.same (Same.refl _)) hb (hKa.trans (Same.keeps (Same.refl _)))
     exact ⟨_, rfl, r', h', hw, e, hs9⟩
end Go.Pw
