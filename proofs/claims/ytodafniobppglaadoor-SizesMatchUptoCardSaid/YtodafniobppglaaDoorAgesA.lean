import Derived.Test.YtodafniobppglaaDoorAgesB
namespace Go.Pw
open Go Go.RowKit Go.Proofs
set_option maxRecDepth 100000
set_option linter.unusedSimpArgs false
set_option linter.unusedVariables false
theorem bd68 (parts : List (Nat × Slot)) (N : Slot → Prop) : popBuild Tryd.prog 68 parts N = (match fillP [(0, 1), (1, 1)] [PV.val (.string ⟨#[]⟩), PV.val (.int .i64 0)] parts with | some ps => N (.sv (.agg ps)) | none => False) :=
  popBuild_of (z := (.agg #[(.string ⟨#[]⟩), (.int .i64 0)])) (by kernel_rfl) (by kernel_rfl) (by kernel_rfl) (by kernel_rfl) parts N
theorem by68 : bytesOf' Tryd.prog 68 = some 24 := by kernel_rfl
theorem sz68 : szOf Tryd.prog 68 = some 2 := by kernel_rfl
theorem ze68 : zeroOf Tryd.prog 68 = some (.agg #[(.string ⟨#[]⟩), (.int .i64 0)]) := by kernel_rfl

theorem getD_some {s : List UInt8} {i : Nat} (h : i < s.length) : s[i]? = some (s.getD i 0) := by
  rw [List.getD_eq_getElem?_getD, List.getElem?_eq_getElem h]; rfl
theorem tw_at {p : UInt8 → Bool} {s : List UInt8} {i : Nat} (h1 : ∀ c ∈ s.take i, p c = true) (h2 : (decide ((i : Int) < ((s.length : Nat) : Int)) && p (s.getD i 0)) = false) : s.takeWhile p = s.take i ∧ s.dropWhile p = s.drop i := by
  have e : s = s.take i ++ s.drop i := (List.take_append_drop i s).symm
  have := tw_app (a := s.take i) (b := s.drop i) h1 (fun c hc => by
    rw [List.head?_drop] at hc
    have hi : i < s.length := (List.getElem?_eq_some_iff.1 hc).1
    rw [getD_some hi] at hc
    rw [← Option.some.inj hc]
    simpa [hi] using h2)
  rw [← e] at this
  exact this
theorem tw_step {p : UInt8 → Bool} {s : List UInt8} {i : Nat} (hi : i < s.length) (h1 : ∀ c ∈ s.take i, p c = true) (h2 : p (s.getD i 0) = true) : ∀ c ∈ s.take (i + 1), p c = true := by
  rw [List.take_add_one, getD_some hi]
  intro c hc
  rcases List.mem_append.1 hc with hc | hc
  · exact h1 c hc
  · simp at hc; rw [hc]; exact h2
theorem numBad_prog (d : List UInt8) : ((d == []) || (decide (((d.length : Nat) : Int) > 1) && (((d.getD 0 0).toNat : Int) == 48))) = numBad d := by
  cases d with
  | nil => rfl
  | cons c d =>
    have e : (((c.toNat : Nat) : Int) == 48) = (c == 48) := all_u8 (Q := fun c => (((c.toNat : Nat) : Int) == 48) = (c == 48)) (by decide +kernel) c
    simp [numBad, e]
    congr 1
    exact decide_eq_decide.2 (by omega)
theorem digit_val {c : UInt8} (h : digitB c = true) : ∃ x : Nat, c.toNat = 48 + x ∧ x ≤ 9 := by
  unfold digitB at h
  simp at h
  exact ⟨c.toNat - 48, by omega, by omega⟩
theorem quo_nat (a u : Nat) (ha : a ≤ 9223372036854775807) : IntKind.i64.wrap (Int.tdiv (a : Int) (u : Int)) = ((a / u : Nat) : Int) := by
  rw [show Int.tdiv (a : Int) (u : Int) = ((a / u : Nat) : Int) from rfl]
  have h := Nat.div_le_self a u
  generalize a / u = q at h
  exact wrap_i64 (by omega) (by omega)
theorem mul_nat (a u : Nat) (ha : a * u ≤ 9223372036854775807) : IntKind.i64.wrap ((a : Int) * (u : Int)) = ((a * u : Nat) : Int) := by
  rw [← Int.natCast_mul]; exact wrap_i64 (by omega) (by omega)
theorem times_le {n u : Nat} (h : ¬ MOST / u < n) : n * u ≤ MOST := Nat.le_trans (Nat.mul_le_mul_right u (Nat.le_of_not_lt h)) (Nat.div_mul_le_self _ _)
abbrev UR : List (List PV) := [[pstr [119], pint 604800000000000], [pstr [100], pint 86400000000000], [pstr [104], pint 3600000000000], [pstr [109], pint 60000000000], [pstr [115], pint 1000000000], [pstr [109, 115], pint 1000000], [pstr [117, 115], pint 1000], [pstr [110, 115], pint 1]]
theorem nm46 : (Tryd.f46.name == "runtime.NumGoroutine") = false := by kernel_rfl
theorem leading_fun (W0 : World) (s : List UInt8) (hs : s.length ≤ 9223372036854775807) :
  PFun Tryd.prog W0 46 [.one (pstr s)] (.tup [.one (pstr (s.takeWhile digitB)), .one (pstr (s.dropWhile digitB))]) := by
 intro h
 refine pcalls1 (n := 23) Tryd.func46 rfl nm46 rfl fun hb => ?_
 refine pwp_then fun N1 hN1 => ?_
 refine pwp_reg fun R2 hR2 => ?_
 refine pops_mv (.inr rfl) rfl (by simp only [St.eval, constSlot] <;> rfl) ?_
 refine pops_mv (.inr rfl) rfl (by simp only [St.eval, constSlot] <;> rfl) ?_
 refine pops_done (hR2 _ ?_)
 clear hR2 R2
 try simp only [thenK, scopeK]
 refine hN1 _ ?_
 clear hN1 N1
 refine pwp_then fun N3 hN3 => ?_
 refine pwp_reg fun R4 hR4 => ?_
 refine pops_mv (.inr rfl) rfl (by simp only [St.eval, constSlot] <;> rfl) ?_
 refine pops_done (hR4 _ ?_)
 clear hR4 R4
 try simp only [thenK, scopeK]
 refine hN3 _ ?_
 clear hN3 N3
 refine pwp_then fun N5 hN5 => ?_
 refine pwp_block ?_
 refine pwp_loop (fun k σ => ∃ (i : Nat), (k = s.length - i) ∧ (i ≤ s.length) ∧ (∀ c ∈ s.take i, digitB c = true) ∧ (Same h σ.hp) ∧ (σ.env 0 = .sv (.one (pstr s))) ∧ (σ.env 4 = .sv (.one (pint (i : Nat))))) _ ⟨_, .refl _ _, 0, rfl, ?_⟩ ?_
 · exact ⟨Nat.zero_le _, by simp, (Same.refl _), by simp only [upd_at, Nat.reduceEqDiff, if_true, if_false], by simp only [upd_at, Nat.reduceEqDiff, if_true, if_false]; rfl⟩
 ·rintro k ⟨e, hp0⟩ ⟨i, hk0, hx0_0, hx0_1, sl0, e0_0, e0_4⟩
  simp only at sl0 e0_0 e0_4
  refine pwp_then fun N6 hN6 => ?_
  refine pwp_then fun N7 hN7 => ?_
  refine pwp_reg fun R8 hR8 => ?_
  refine pops_mv (.inl rfl) rfl (by simp only [St.eval, upd_at, Nat.reduceEqDiff, if_true, if_false, e0_0, e0_4] <;> rfl) ?_
  refine pops_mv (.inl rfl) rfl (by simp only [St.eval, upd_at, Nat.reduceEqDiff, if_true, if_false, e0_0, e0_4] <;> rfl) ?_
  refine pops_to rfl fun M hM => ?_
  simp only [pop, St.eval, constSlot, upd_at, Nat.reduceEqDiff, if_true, if_false, popCall, List.toList_toArray, List.map_cons, List.map_nil, popBuiltin, popLen, lenOfSlot, List.length_map, Tryd.underlying9, eq_self, true_and, and_true, str_list, str_size, str_app, str_cut, str_get, e0_0, e0_4]
  refine hM _ _ ?_
  clear hM M
  refine pops_to rfl fun M hM => ?_
  simp only [pop, St.eval, constSlot, upd_at, Nat.reduceEqDiff, if_true, if_false, popBin, binK, intK, strK, eqK, eq_self, true_and, and_true, e0_0, e0_4]
  refine hM _ _ ?_
  clear hM M
  refine pops_mv (.inl rfl) rfl (by simp only [St.eval, upd_at, Nat.reduceEqDiff, if_true, if_false, e0_0, e0_4] <;> rfl) ?_
  apply pops_and 5 9 14 [10, 11, 12, 13] (by simp only [upd_at, Nat.reduceEqDiff, if_true, if_false, e0_0, e0_4] <;> rfl)
  ·skip
   intro g9_0 J9 hJ9
   simp only [List.take_succ_cons, List.take_zero]
   simp only [anyAt_cons, anyAt_nil] at hJ9
   have hi : i < s.length := by have := of_decide_eq_true g9_0; omega
   have hx := getD_some hi
   refine pops_mvg (.inl rfl) rfl rfl (by simp only [upd_at, Nat.reduceEqDiff, if_true, if_false, e0_0, e0_4, g9_0]) (by simp only [St.eval, upd_at, Nat.reduceEqDiff, if_true, if_false, e0_0, e0_4, g9_0] <;> rfl) ?_
   refine pops_mvg (.inl rfl) rfl rfl (by simp only [upd_at, Nat.reduceEqDiff, if_true, if_false, e0_0, e0_4, g9_0]) (by simp only [St.eval, upd_at, Nat.reduceEqDiff, if_true, if_false, e0_0, e0_4, g9_0] <;> rfl) ?_
   refine pops_do rfl rfl (by simp only [upd_at, Nat.reduceEqDiff, if_true, if_false, e0_0, e0_4, g9_0]) fun M hM => ?_
   simp only [pop, St.eval, constSlot, upd_at, Nat.reduceEqDiff, if_true, if_false, popIndex, partK, Tryd.underlying9, eq_self, true_and, and_true, str_list, str_size, str_app, str_cut, str_get, e0_0, e0_4, g9_0, hx, Int.toNat_natCast]
   refine ⟨Int.natCast_nonneg _, hM _ _ ?_⟩
   clear hM M
   refine pops_do rfl rfl (by simp only [upd_at, Nat.reduceEqDiff, if_true, if_false, e0_0, e0_4, g9_0]) fun M hM => ?_
   simp only [pop, St.eval, constSlot, upd_at, Nat.reduceEqDiff, if_true, if_false, popCall, List.toList_toArray, List.map_cons, List.map_nil, svs, List.mapM_cons, List.mapM_nil, Option.bind_eq_bind, Option.bind_some, Option.pure_def, List.append_nil, List.cons_append, List.nil_append, str_size, e0_0, e0_4, g9_0]
   refine PFun.use (digit_fun W0 (s.getD i 0)) fun h1 s1 => hM _ _ ?_
   replace s1 := Same.trans (Same.refl _) s1
   clear hM M
   refine pops_to rfl fun M hM => ?_
   simp only [pop, St.eval, constSlot, upd_at, Nat.reduceEqDiff, if_true, if_false, popIf, true_implies, false_implies, Bool.true_eq_false, Bool.false_eq_true, reduceCtorEq, true_and, and_true, e0_0, e0_4, g9_0]
   refine hM _ _ ?_
   clear hM M
   exact pops_done (hJ9 _ _ s1 (wk_same (wk_any ((wk_any ((wk_any ((wk_any (Wk.refl _ _))))))))))
  ·skip
   intro g9_0 J9 hJ9
   simp only [List.take_succ_cons, List.take_zero]
   simp only [anyAt_cons, anyAt_nil] at hJ9
   refine pops_off (b := false) rfl rfl (by simp only [upd_at, Nat.reduceEqDiff, if_true, if_false, e0_0, e0_4, g9_0]) (by decide) ?_
   refine pops_off (b := false) rfl rfl (by simp only [upd_at, Nat.reduceEqDiff, if_true, if_false, e0_0, e0_4, g9_0]) (by decide) ?_
   refine pops_off (b := false) rfl rfl (by simp only [upd_at, Nat.reduceEqDiff, if_true, if_false, e0_0, e0_4, g9_0]) (by decide) ?_
   refine pops_off (b := false) rfl rfl (by simp only [upd_at, Nat.reduceEqDiff, if_true, if_false, e0_0, e0_4, g9_0]) (by decide) ?_
   refine pops_to rfl fun M hM => ?_
   simp only [pop, St.eval, constSlot, upd_at, Nat.reduceEqDiff, if_true, if_false, popIf, true_implies, false_implies, Bool.true_eq_false, Bool.false_eq_true, reduceCtorEq, true_and, and_true, e0_0, e0_4, g9_0]
   refine hM _ _ ?_
   clear hM M
   exact pops_done (hJ9 _ _ (Same.refl _) (wk_same (wk_any ((wk_any ((wk_any ((wk_any (Wk.refl _ _))))))))))
  simp only [List.drop_succ_cons, List.drop_zero, anyAt_cons, anyAt_nil]
  intro hj9 sj9
  replace sj9 := Same.trans sl0 sj9
  refine pops_done (hR8 _ ?_)
  clear hR8 R8
  try simp only [thenK, scopeK]
  refine hN7 _ ?_
  clear hN7 N7
  refine pwp_cond (by simp only [St.eval, upd_at, Nat.reduceEqDiff, if_true, if_false, e0_0, e0_4] <;> rfl) (fun c14 => ?_) (fun c14 => ?_)
  ·skip
   have hb14 : i < s.length ∧ digitB (s.getD i 0) = true := by simpa using c14
   refine pwp_skip ?_
   try simp only [thenK, scopeK]
   refine hN6 _ ?_
   clear hN6 N6
   refine pwp_block ?_
   refine pwp_reg fun R10 hR10 => ?_
   refine pops_mv (.inl rfl) rfl (by simp only [St.eval, upd_at, Nat.reduceEqDiff, if_true, if_false, e0_0, e0_4] <;> rfl) ?_
   refine pops_to rfl fun M hM => ?_
   simp only [pop, St.eval, constSlot, upd_at, Nat.reduceEqDiff, if_true, if_false, popBin, binK, intK, strK, eqK, eq_self, true_and, and_true, e0_0, e0_4]
   refine hM _ _ ?_
   clear hM M
   refine pops_mv (.inr rfl) rfl (by simp only [St.eval, upd_at, Nat.reduceEqDiff, if_true, if_false, e0_0, e0_4] <;> rfl) ?_
   refine pops_done (hR10 _ ?_)
   clear hR10 R10
   try simp only [blockK, thenK, scopeK]
   try simp only [thenK, scopeK]
   exact ⟨_, by omega, _, .refl _ _, i + 1, rfl, by omega, tw_step hb14.1 hx0_1 hb14.2, sj9, by simp only [upd_at, Nat.reduceEqDiff, if_true, if_false, e0_0, e0_4], by simp only [upd_at, Nat.reduceEqDiff, if_true, if_false, e0_4]; rw [wrap_succ (by omega)]⟩
  ·skip
   have htw := tw_at hx0_1 c14
   refine pwp_exit ?_
   try simp only [thenK, blockK, scopeK, if_true, Nat.reduceEqDiff, if_false]
   clear hN6 N6
   try simp only [blockK, scopeK, if_true, Nat.reduceEqDiff, if_false, thenK]
   try simp only [thenK, scopeK]
   refine hN5 _ ?_
   clear hN5 N5
   refine pwp_then fun N11 hN11 => ?_
   refine pwp_dreg 8 mixed (by decide +kernel) fun R12 hR12 => ?_
   simp only [List.take_succ_cons, List.take_zero, List.drop_succ_cons, List.drop_zero]
   apply lex_to
   · rfl
   ·intro h' s' M hM
    simp only [pop, St.eval, constSlot, upd_at, Nat.reduceEqDiff, if_true, if_false, eq_self, true_and, and_true, str_list, str_size, str_app, str_cut, str_get, e0_0, e0_4, s'.1]
    exact hM _ (.refl _)
   apply lex_to
   · rfl
   ·intro h' s' M hM
    simp only [pop, St.eval, constSlot, upd_at, Nat.reduceEqDiff, if_true, if_false, eq_self, true_and, and_true, str_list, str_size, str_app, str_cut, str_get, e0_0, e0_4, s'.1]
    exact hM _ (.refl _)
   apply lex_to
   · rfl
   ·intro h' s' M hM
    simp only [pop, St.eval, constSlot, upd_at, Nat.reduceEqDiff, if_true, if_false, popSlice, boundOf, Option.map_none, Option.map_some, Tryd.underlying9, eq_self, true_and, and_true, str_list, str_size, str_app, str_cut, str_get, e0_0, e0_4, Int.toNat_natCast, Int.toNat_zero, List.drop_zero, s'.1]
    refine ⟨by omega, by omega, by omega, ?_⟩
    exact hM _ (.refl _)
   apply lex_to
   · rfl
   ·intro h' s' M hM
    simp only [pop, St.eval, constSlot, upd_at, Nat.reduceEqDiff, if_true, if_false, eq_self, true_and, and_true, str_list, str_size, str_app, str_cut, str_get, e0_0, e0_4, s'.1]
    exact hM _ (.refl _)
   apply lex_to
   · rfl
   ·intro h' s' M hM
    simp only [pop, St.eval, constSlot, upd_at, Nat.reduceEqDiff, if_true, if_false, eq_self, true_and, and_true, str_list, str_size, str_app, str_cut, str_get, e0_0, e0_4, s'.1]
    exact hM _ (.refl _)
   apply lex_to
   · rfl
   ·intro h' s' M hM
    simp only [pop, St.eval, constSlot, upd_at, Nat.reduceEqDiff, if_true, if_false, popSlice, boundOf, Option.map_none, Option.map_some, Tryd.underlying9, eq_self, true_and, and_true, str_list, str_size, str_app, str_cut, str_get, e0_0, e0_4, Int.toNat_natCast, List.take_length, s'.1]
    refine ⟨by omega, by omega, by omega, ?_⟩
    exact hM _ (.refl _)
   apply lex_to
   · rfl
   ·intro h' s' M hM
    simp only [pop, St.eval, constSlot, upd_at, Nat.reduceEqDiff, if_true, if_false, eq_self, true_and, and_true, str_list, str_size, str_app, str_cut, str_get, e0_0, e0_4, s'.1]
    exact hM _ (.refl _)
   apply lex_to
   · rfl
   ·intro h' s' M hM
    simp only [pop, St.eval, constSlot, upd_at, Nat.reduceEqDiff, if_true, if_false, eq_self, true_and, and_true, str_list, str_size, str_app, str_cut, str_get, e0_0, e0_4, s'.1]
    exact hM _ (.refl _)
   refine lex_done fun hq sq => ?_
   replace sq := Same.trans sj9 sq
   refine pops_done (hR12 _ ?_)
   clear hR12 R12
   try simp only [thenK, scopeK]
   refine hN11 _ ?_
   clear hN11 N11
   refine pwp_ret ?_
   simp only [thenK, blockK, scopeK, bodyK]
   refine ⟨_, rfl, endFun sq ?_⟩
   try simp only [upd_at, Nat.reduceEqDiff, if_true, if_false, e0_0, e0_4]
   all_goals
    rw [htw.1, htw.2]

theorem nm47 : (Tryd.f47.name == "runtime.NumGoroutine") = false := by kernel_rfl
theorem number_fun (W0 : World) (d : List UInt8) (hs : d.length ≤ 9223372036854775807) (hd : ∀ c ∈ d, digitB c = true) :
  PFun Tryd.prog W0 47 [.one (pstr d)] (.tup [.one (pint (if numBad d then 0 else (numV d : Int))), .one (pbool (!numBad d))]) := by
 intro h
 refine pcalls1 (n := 40) Tryd.func47 rfl nm47 rfl fun hb => ?_
 refine pwp_then fun N1 hN1 => ?_
 refine pwp_reg fun R2 hR2 => ?_
 refine pops_mv (.inr rfl) rfl (by simp only [St.eval, constSlot] <;> rfl) ?_
 refine pops_mv (.inr rfl) rfl (by simp only [St.eval, constSlot] <;> rfl) ?_
 refine pops_done (hR2 _ ?_)
 clear hR2 R2
 try simp only [thenK, scopeK]
 refine hN1 _ ?_
 clear hN1 N1
 refine pwp_then fun N3 hN3 => ?_
 refine pwp_then fun N4 hN4 => ?_
 refine pwp_reg fun R5 hR5 => ?_
 refine pops_mv (.inl rfl) rfl (by simp only [St.eval, upd_at, Nat.reduceEqDiff, if_true, if_false] <;> rfl) ?_
 refine pops_to rfl fun M hM => ?_
 simp only [pop, St.eval, constSlot, upd_at, Nat.reduceEqDiff, if_true, if_false, popBin, binK, intK, strK, eqK, Tryd.underlying9, isPtr, eq_self, true_and, and_true, str_list, str_size, str_app, str_cut, str_get]
 refine hM _ _ ?_
 clear hM M
 refine pops_mv (.inl rfl) rfl (by simp only [St.eval, upd_at, Nat.reduceEqDiff, if_true, if_false] <;> rfl) ?_
 apply pops_or0 9 9 18 [10, 11, 12, 13, 14, 15, 16, 17] (by simp only [upd_at, Nat.reduceEqDiff, if_true, if_false] <;> rfl)
 ·skip
  intro g9_0 J6 hJ6
  simp only [List.take_succ_cons, List.take_zero]
  simp only [anyAt_cons, anyAt_nil] at hJ6
  have hne : d ≠ [] := by simpa using g9_0
  have hx := getD_some (List.length_pos_iff.2 hne)
  refine pops_mvg (.inl rfl) rfl rfl (by simp only [upd_at, Nat.reduceEqDiff, if_true, if_false, g9_0]) (by simp only [St.eval, upd_at, Nat.reduceEqDiff, if_true, if_false, g9_0] <;> rfl) ?_
  refine pops_do rfl rfl (by simp only [upd_at, Nat.reduceEqDiff, if_true, if_false, g9_0]) fun M hM => ?_
  simp only [pop, St.eval, constSlot, upd_at, Nat.reduceEqDiff, if_true, if_false, popCall, List.toList_toArray, List.map_cons, List.map_nil, popBuiltin, popLen, lenOfSlot, List.length_map, Tryd.underlying9, eq_self, true_and, and_true, str_list, str_size, str_app, str_cut, str_get, g9_0]
  refine hM _ _ ?_
  clear hM M
  refine pops_do rfl rfl (by simp only [upd_at, Nat.reduceEqDiff, if_true, if_false, g9_0]) fun M hM => ?_
  simp only [pop, St.eval, constSlot, upd_at, Nat.reduceEqDiff, if_true, if_false, popBin, binK, intK, strK, eqK, eq_self, true_and, and_true, g9_0]
  refine hM _ _ ?_
  clear hM M
  refine pops_mvg (.inl rfl) rfl rfl (by simp only [upd_at, Nat.reduceEqDiff, if_true, if_false, g9_0]) (by simp only [St.eval, upd_at, Nat.reduceEqDiff, if_true, if_false, g9_0] <;> rfl) ?_
  apply pops_and0 4 13 17 [14, 15, 16] (by simp only [upd_at, Nat.reduceEqDiff, if_true, if_false, g9_0] <;> rfl)
  ·skip
   intro g13_1 J7 hJ7
   simp only [List.take_succ_cons, List.take_zero]
   simp only [anyAt_cons, anyAt_nil] at hJ7
   refine pops_mvg (.inl rfl) rfl rfl (by simp only [upd_at, Nat.reduceEqDiff, if_true, if_false, g9_0, g13_1]) (by simp only [St.eval, upd_at, Nat.reduceEqDiff, if_true, if_false, g9_0, g13_1] <;> rfl) ?_
   refine pops_do rfl rfl (by simp only [upd_at, Nat.reduceEqDiff, if_true, if_false, g9_0, g13_1]) fun M hM => ?_
   simp only [pop, St.eval, constSlot, upd_at, Nat.reduceEqDiff, if_true, if_false, popIndex, partK, Tryd.underlying9, eq_self, true_and, and_true, str_list, str_size, str_app, str_cut, str_get, g9_0, g13_1, hx, Int.toNat_zero]
   refine ⟨by decide, hM _ _ ?_⟩
   clear hM M
   refine pops_do rfl rfl (by simp only [upd_at, Nat.reduceEqDiff, if_true, if_false, g9_0, g13_1]) fun M hM => ?_
   simp only [pop, St.eval, constSlot, upd_at, Nat.reduceEqDiff, if_true, if_false, popBin, binK, intK, strK, eqK, Tryd.underlying5, isPtr, eq_self, true_and, and_true, g9_0, g13_1]
   refine hM _ _ ?_
   clear hM M
   refine pops_do rfl rfl (by simp only [upd_at, Nat.reduceEqDiff, if_true, if_false, g9_0, g13_1]) fun M hM => ?_
   simp only [pop, St.eval, constSlot, upd_at, Nat.reduceEqDiff, if_true, if_false, popIf, true_implies, false_implies, Bool.true_eq_false, Bool.false_eq_true, reduceCtorEq, true_and, and_true, g9_0, g13_1]
   refine hM _ _ ?_
   clear hM M
   exact pops_done (hJ7 _ (wk_same (wk_any ((wk_any ((wk_any (Wk.refl _ _))))))))
  ·skip
   intro g13_1 J7 hJ7
   simp only [List.take_succ_cons, List.take_zero]
   simp only [anyAt_cons, anyAt_nil] at hJ7
   refine pops_off (b := false) rfl rfl (by simp only [upd_at, Nat.reduceEqDiff, if_true, if_false, g9_0, g13_1]) (by decide) ?_
   refine pops_off (b := false) rfl rfl (by simp only [upd_at, Nat.reduceEqDiff, if_true, if_false, g9_0, g13_1]) (by decide) ?_
   refine pops_off (b := false) rfl rfl (by simp only [upd_at, Nat.reduceEqDiff, if_true, if_false, g9_0, g13_1]) (by decide) ?_
   refine pops_do rfl rfl (by simp only [upd_at, Nat.reduceEqDiff, if_true, if_false, g9_0, g13_1]) fun M hM => ?_
   simp only [pop, St.eval, constSlot, upd_at, Nat.reduceEqDiff, if_true, if_false, popIf, true_implies, false_implies, Bool.true_eq_false, Bool.false_eq_true, reduceCtorEq, true_and, and_true, g9_0, g13_1]
   refine hM _ _ ?_
   clear hM M
   exact pops_done (hJ7 _ (wk_same (wk_any ((wk_any ((wk_any (Wk.refl _ _))))))))
  simp only [List.drop_succ_cons, List.drop_zero, anyAt_cons, anyAt_nil]
  refine pops_to rfl fun M hM => ?_
  simp only [pop, St.eval, constSlot, upd_at, Nat.reduceEqDiff, if_true, if_false, popIf, true_implies, false_implies, Bool.true_eq_false, Bool.false_eq_true, reduceCtorEq, true_and, and_true, g9_0]
  refine hM _ _ ?_
  clear hM M
  exact pops_done (hJ6 _ (wk_same (wk_any ((wk_any ((wk_any ((wk_any ((wk_any ((wk_any ((wk_any ((wk_any (Wk.refl _ _))))))))))))))))))
 ·skip
  intro g9_0 J6 hJ6
  simp only [List.take_succ_cons, List.take_zero]
  simp only [anyAt_cons, anyAt_nil] at hJ6
  refine pops_off (b := true) rfl rfl (by simp only [upd_at, Nat.reduceEqDiff, if_true, if_false, g9_0]) (by decide) ?_
  refine pops_off (b := true) rfl rfl (by simp only [upd_at, Nat.reduceEqDiff, if_true, if_false, g9_0]) (by decide) ?_
  refine pops_off (b := true) rfl rfl (by simp only [upd_at, Nat.reduceEqDiff, if_true, if_false, g9_0]) (by decide) ?_
  refine pops_off (b := true) rfl rfl (by simp only [upd_at, Nat.reduceEqDiff, if_true, if_false, g9_0]) (by decide) ?_
  refine pops_off0 rfl rfl (by simp only [upd_at, Nat.reduceEqDiff, if_true, if_false, g9_0]) ?_
  refine pops_off0 rfl rfl (by simp only [upd_at, Nat.reduceEqDiff, if_true, if_false, g9_0]) ?_
  refine pops_off0 rfl rfl (by simp only [upd_at, Nat.reduceEqDiff, if_true, if_false, g9_0]) ?_
  refine pops_off (b := true) rfl rfl (by simp only [upd_at, Nat.reduceEqDiff, if_true, if_false, g9_0]) (by decide) ?_
  refine pops_to rfl fun M hM => ?_
  simp only [pop, St.eval, constSlot, upd_at, Nat.reduceEqDiff, if_true, if_false, popIf, true_implies, false_implies, Bool.true_eq_false, Bool.false_eq_true, reduceCtorEq, true_and, and_true, g9_0]
  refine hM _ _ ?_
  clear hM M
  exact pops_done (hJ6 _ (wk_same (wk_any ((wk_any ((wk_any ((wk_any ((wk_any ((wk_any ((wk_any ((wk_any (Wk.refl _ _))))))))))))))))))
 simp only [List.drop_succ_cons, List.drop_zero, anyAt_cons, anyAt_nil]
 refine pops_done (hR5 _ ?_)
 clear hR5 R5
 try simp only [thenK, scopeK]
 refine hN4 _ ?_
 clear hN4 N4
 refine pwp_cond (by simp only [St.eval, upd_at, Nat.reduceEqDiff, if_true, if_false] <;> rfl) (fun c18 => ?_) (fun c18 => ?_)
 ·skip
  rw [numBad_prog] at c18
  refine pwp_then fun N8 hN8 => ?_
  refine pwp_reg fun R9 hR9 => ?_
  refine pops_mv (.inr rfl) rfl (by simp only [St.eval, constSlot] <;> rfl) ?_
  refine pops_mv (.inr rfl) rfl (by simp only [St.eval, constSlot] <;> rfl) ?_
  refine pops_done (hR9 _ ?_)
  clear hR9 R9
  try simp only [thenK, scopeK]
  refine hN8 _ ?_
  clear hN8 N8
  refine pwp_ret ?_
  simp only [thenK, blockK, scopeK, bodyK]
  clear hN3 N3
  refine ⟨_, rfl, endFun (Same.refl _) ?_⟩
  try simp only [upd_at, Nat.reduceEqDiff, if_true, if_false]
  all_goals
   rw [c18]; rfl
 ·skip
  rw [numBad_prog] at c18
  refine pwp_skip ?_
  try simp only [thenK, scopeK]
  refine hN3 _ ?_
  clear hN3 N3
  refine pwp_then fun N10 hN10 => ?_
  refine pwp_reg fun R11 hR11 => ?_
  refine pops_mv (.inr rfl) rfl (by simp only [St.eval, constSlot] <;> rfl) ?_
  refine pops_done (hR11 _ ?_)
  clear hR11 R11
  try simp only [thenK, scopeK]
  refine hN10 _ ?_
  clear hN10 N10
  refine pwp_then fun N12 hN12 => ?_
  refine pwp_then fun N13 hN13 => ?_
  refine pwp_reg fun R14 hR14 => ?_
  refine pops_mv (.inl rfl) rfl (by simp only [St.eval, upd_at, Nat.reduceEqDiff, if_true, if_false] <;> rfl) ?_
  refine pops_to rfl fun M hM => ?_
  simp only [pop, St.eval, constSlot, upd_at, Nat.reduceEqDiff, if_true, if_false, popCall, List.toList_toArray, List.map_cons, List.map_nil, popBuiltin, popLen, lenOfSlot, List.length_map, Tryd.underlying9, eq_self, true_and, and_true, str_list, str_size, str_app, str_cut, str_get]
  refine hM _ _ ?_
  clear hM M
  refine pops_mv (.inl rfl) rfl (by simp only [St.eval, constSlot] <;> rfl) ?_
  refine pops_done (hR14 _ ?_)
  clear hR14 R14
  try simp only [thenK, scopeK]
  refine hN13 _ ?_
  clear hN13 N13
  refine pwp_block ?_
  refine pwp_loop (fun k σ => ∃ (i : Nat), (k = d.length - i) ∧ (i ≤ d.length) ∧ (decV (d.take i) ≤ 4611686018427387904) ∧ (Same h σ.hp) ∧ (σ.env 0 = .sv (.one (pstr d))) ∧ (σ.env 20 = .sv (.one (pint (d.length : Nat)))) ∧ (σ.env 21 = .sv (.one (pint (i : Nat)))) ∧ (σ.env 4 = .sv (.one (pint (decV (d.take i) : Nat))))) _ ⟨_, .refl _ _, 0, rfl, ?_⟩ ?_
  · exact ⟨Nat.zero_le _, Nat.zero_le _, (Same.refl _), by simp only [upd_at, Nat.reduceEqDiff, if_true, if_false], by simp only [upd_at, Nat.reduceEqDiff, if_true, if_false], by simp only [upd_at, Nat.reduceEqDiff, if_true, if_false]; rfl, by simp only [upd_at, Nat.reduceEqDiff, if_true, if_false]; rfl⟩
  ·rintro k ⟨e, hp0⟩ ⟨i, hk0, hx0_0, hx0_1, sl0, e0_0, e0_20, e0_21, e0_4⟩
   simp only at sl0 e0_0 e0_20 e0_21 e0_4
   refine pwp_then fun N15 hN15 => ?_
   refine pwp_reg fun R16 hR16 => ?_
   refine pops_to rfl fun M hM => ?_
   simp only [pop, St.eval, constSlot, upd_at, Nat.reduceEqDiff, if_true, if_false, popBin, binK, intK, strK, eqK, eq_self, true_and, and_true, e0_0, e0_20, e0_21, e0_4]
   refine hM _ _ ?_
   clear hM M
   refine pops_done (hR16 _ ?_)
   clear hR16 R16
   try simp only [thenK, scopeK]
   refine hN15 _ ?_
   clear hN15 N15
   refine pwp_then fun N17 hN17 => ?_
   refine pwp_cond (by simp only [St.eval, upd_at, Nat.reduceEqDiff, if_true, if_false, e0_0, e0_20, e0_21, e0_4] <;> rfl) (fun c22 => ?_) (fun c22 => ?_)
   ·skip
    have hi : i < d.length := by have := of_decide_eq_true c22; omega
    have hx := getD_some hi
    obtain ⟨x, hxx, hx9⟩ := digit_val (hd _ (List.mem_of_getElem? hx))
    have hdv := decV_take hx
    have hw : IntKind.u8.wrap (((d.getD i 0).toNat : Int) - 48) = (x : Int) := by rw [wrap_u8 (by omega) (by omega)]; omega
    have hw2 : IntKind.i64.wrap (x : Int) = (x : Int) := wrap_i64 (by omega) (by omega)
    have hw3 : IntKind.i64.wrap (4611686018427387904 - (x : Int)) = ((4611686018427387904 - x : Nat) : Int) := by rw [wrap_i64 (by omega) (by omega)]; omega
    have hw4 : IntKind.i64.wrap (Int.tdiv ((4611686018427387904 - x : Nat) : Int) 10) = (((4611686018427387904 - x) / 10 : Nat) : Int) := quo_nat (4611686018427387904 - x) 10 (by omega)
    refine pwp_skip ?_
    try simp only [thenK, scopeK]
    refine hN17 _ ?_
    clear hN17 N17
    refine pwp_then fun N18 hN18 => ?_
    refine pwp_block ?_
    refine pwp_then fun N19 hN19 => ?_
    refine pwp_reg fun R20 hR20 => ?_
    refine pops_mv (.inl rfl) rfl (by simp only [St.eval, upd_at, Nat.reduceEqDiff, if_true, if_false, e0_0, e0_20, e0_21, e0_4] <;> rfl) ?_
    refine pops_mv (.inr rfl) rfl (by simp only [St.eval, upd_at, Nat.reduceEqDiff, if_true, if_false, e0_0, e0_20, e0_21, e0_4] <;> rfl) ?_
    refine pops_done (hR20 _ ?_)
    clear hR20 R20
    try simp only [thenK, scopeK]
    refine hN19 _ ?_
    clear hN19 N19
    refine pwp_then fun N21 hN21 => ?_
    refine pwp_reg fun R22 hR22 => ?_
    refine pops_mv (.inl rfl) rfl (by simp only [St.eval, upd_at, Nat.reduceEqDiff, if_true, if_false, e0_0, e0_20, e0_21, e0_4] <;> rfl) ?_
    refine pops_mv (.inl rfl) rfl (by simp only [St.eval, upd_at, Nat.reduceEqDiff, if_true, if_false, e0_0, e0_20, e0_21, e0_4] <;> rfl) ?_
    refine pops_to rfl fun M hM => ?_
    simp only [pop, St.eval, constSlot, upd_at, Nat.reduceEqDiff, if_true, if_false, popIndex, partK, Tryd.underlying9, eq_self, true_and, and_true, str_list, str_size, str_app, str_cut, str_get, e0_0, e0_20, e0_21, e0_4, hx, Int.toNat_natCast]
    refine ⟨Int.natCast_nonneg _, hM _ _ ?_⟩
    clear hM M
    refine pops_to rfl fun M hM => ?_
    simp only [pop, St.eval, constSlot, upd_at, Nat.reduceEqDiff, if_true, if_false, popBin, binK, intK, strK, eqK, eq_self, true_and, and_true, e0_0, e0_20, e0_21, e0_4, hw]
    refine hM _ _ ?_
    clear hM M
    refine pops_to rfl fun M hM => ?_
    simp only [pop, St.eval, constSlot, upd_at, Nat.reduceEqDiff, if_true, if_false, popConvert, Tryd.underlying5, Tryd.underlying3, eq_self, true_and, and_true, str_list, str_size, str_app, str_cut, str_get, e0_0, e0_20, e0_21, e0_4, hw2]
    refine hM _ _ ?_
    clear hM M
    refine pops_mv (.inr rfl) rfl (by simp only [St.eval, upd_at, Nat.reduceEqDiff, if_true, if_false, e0_0, e0_20, e0_21, e0_4] <;> rfl) ?_
    refine pops_done (hR22 _ ?_)
    clear hR22 R22
    try simp only [thenK, scopeK]
    refine hN21 _ ?_
    clear hN21 N21
    refine pwp_then fun N23 hN23 => ?_
    refine pwp_then fun N24 hN24 => ?_
    refine pwp_reg fun R25 hR25 => ?_
    refine pops_mv (.inl rfl) rfl (by simp only [St.eval, upd_at, Nat.reduceEqDiff, if_true, if_false, e0_0, e0_20, e0_21, e0_4] <;> rfl) ?_
    refine pops_mv (.inl rfl) rfl (by simp only [St.eval, upd_at, Nat.reduceEqDiff, if_true, if_false, e0_0, e0_20, e0_21, e0_4] <;> rfl) ?_
    refine pops_to rfl fun M hM => ?_
    simp only [pop, St.eval, constSlot, upd_at, Nat.reduceEqDiff, if_true, if_false, popBin, binK, intK, strK, eqK, eq_self, true_and, and_true, e0_0, e0_20, e0_21, e0_4, hw3]
    refine hM _ _ ?_
    clear hM M
    refine pops_to rfl fun M hM => ?_
    simp only [pop, St.eval, constSlot, upd_at, Nat.reduceEqDiff, if_true, if_false, popBin, binK, intK, strK, eqK, eq_self, true_and, and_true, e0_0, e0_20, e0_21, e0_4, hw4]
    refine ⟨by decide, hM _ _ ?_⟩
    clear hM M
    refine pops_to rfl fun M hM => ?_
    simp only [pop, St.eval, constSlot, upd_at, Nat.reduceEqDiff, if_true, if_false, popBin, binK, intK, strK, eqK, eq_self, true_and, and_true, e0_0, e0_20, e0_21, e0_4]
    refine hM _ _ ?_
    clear hM M
    refine pops_done (hR25 _ ?_)
    clear hR25 R25
    try simp only [thenK, scopeK]
    refine hN24 _ ?_
    clear hN24 N24
    refine pwp_cond (by simp only [St.eval, upd_at, Nat.reduceEqDiff, if_true, if_false, e0_0, e0_20, e0_21, e0_4] <;> rfl) (fun c33 => ?_) (fun c33 => ?_)
    ·skip
     have hov : numV d = 4611686018427387904 + 1 := decV_over (i + 1) (by rw [hdv]; show 4611686018427387904 < _; have := of_decide_eq_true c33; omega)
     refine pwp_then fun N26 hN26 => ?_
     refine pwp_reg fun R27 hR27 => ?_
     refine pops_mv (.inr rfl) rfl (by simp only [St.eval, constSlot] <;> rfl) ?_
     refine pops_mv (.inr rfl) rfl (by simp only [St.eval, constSlot] <;> rfl) ?_
     refine pops_done (hR27 _ ?_)
     clear hR27 R27
     try simp only [thenK, scopeK]
     refine hN26 _ ?_
     clear hN26 N26
     refine pwp_ret ?_
     simp only [thenK, blockK, scopeK, bodyK]
     clear hN23 N23 hN18 N18 hN12 N12
     refine ⟨_, rfl, endFun sl0 ?_⟩
     try simp only [upd_at, Nat.reduceEqDiff, if_true, if_false, e0_0, e0_20, e0_21, e0_4]
     all_goals
      rw [c18, hov]; rfl
    ·skip
     have hle := of_decide_eq_false c33
     have hw5 : IntKind.i64.wrap (((decV (d.take i) : Nat) : Int) * 10) = ((decV (d.take i) * 10 : Nat) : Int) := mul_nat (decV (d.take i)) 10 (by omega)
     have hw6 : IntKind.i64.wrap (((decV (d.take i) * 10 : Nat) : Int) + (x : Int)) = ((decV (d.take (i + 1)) : Nat) : Int) := by rw [hdv, wrap_i64 (by omega) (by omega)]; omega
     refine pwp_skip ?_
     try simp only [thenK, scopeK]
     refine hN23 _ ?_
     clear hN23 N23
     refine pwp_reg fun R28 hR28 => ?_
     refine pops_mv (.inl rfl) rfl (by simp only [St.eval, upd_at, Nat.reduceEqDiff, if_true, if_false, e0_0, e0_20, e0_21, e0_4] <;> rfl) ?_
     refine pops_to rfl fun M hM => ?_
     simp only [pop, St.eval, constSlot, upd_at, Nat.reduceEqDiff, if_true, if_false, popBin, binK, intK, strK, eqK, eq_self, true_and, and_true, e0_0, e0_20, e0_21, e0_4, hw5]
     refine hM _ _ ?_
     clear hM M
     refine pops_mv (.inl rfl) rfl (by simp only [St.eval, upd_at, Nat.reduceEqDiff, if_true, if_false, e0_0, e0_20, e0_21, e0_4] <;> rfl) ?_
     refine pops_to rfl fun M hM => ?_
     simp only [pop, St.eval, constSlot, upd_at, Nat.reduceEqDiff, if_true, if_false, popBin, binK, intK, strK, eqK, eq_self, true_and, and_true, e0_0, e0_20, e0_21, e0_4, hw6]
     refine hM _ _ ?_
     clear hM M
     refine pops_mv (.inr rfl) rfl (by simp only [St.eval, upd_at, Nat.reduceEqDiff, if_true, if_false, e0_0, e0_20, e0_21, e0_4] <;> rfl) ?_
     refine pops_done (hR28 _ ?_)
     clear hR28 R28
     try simp only [blockK, thenK, scopeK]
     try simp only [thenK, scopeK]
     refine hN18 _ ?_
     clear hN18 N18
     refine pwp_reg fun R29 hR29 => ?_
     refine pops_to rfl fun M hM => ?_
     simp only [pop, St.eval, constSlot, upd_at, Nat.reduceEqDiff, if_true, if_false, popBin, binK, intK, strK, eqK, eq_self, true_and, and_true, e0_0, e0_20, e0_21, e0_4]
     refine hM _ _ ?_
     clear hM M
     refine pops_mv (.inl rfl) rfl (by simp only [St.eval, upd_at, Nat.reduceEqDiff, if_true, if_false, e0_0, e0_20, e0_21, e0_4] <;> rfl) ?_
     refine pops_done (hR29 _ ?_)
     clear hR29 R29
     try simp only [thenK, scopeK]
     exact ⟨_, by omega, _, .refl _ _, i + 1, rfl, by omega, by rw [hdv]; omega, sl0, by simp only [upd_at, Nat.reduceEqDiff, if_true, if_false, e0_0, e0_20, e0_21, e0_4], by simp only [upd_at, Nat.reduceEqDiff, if_true, if_false, e0_0, e0_20, e0_21, e0_4], by simp only [upd_at, Nat.reduceEqDiff, if_true, if_false, e0_21]; rw [wrap_succ (by omega)], by simp only [upd_at, Nat.reduceEqDiff, if_true, if_false, e0_0, e0_20, e0_21, e0_4]⟩
   ·skip
    have hi : ¬ i < d.length := by have := of_decide_eq_false c22; omega
    have hv : decV d ≤ 4611686018427387904 := by rw [List.take_of_length_le (by omega)] at hx0_1; exact hx0_1
    have hn : numV d = decV d := by rw [numV, if_pos hv]
    refine pwp_exit ?_
    try simp only [thenK, blockK, scopeK, if_true, Nat.reduceEqDiff, if_false]
    clear hN17 N17
    try simp only [blockK, scopeK, if_true, Nat.reduceEqDiff, if_false, thenK]
    try simp only [thenK, scopeK]
    refine hN12 _ ?_
    clear hN12 N12
    refine pwp_then fun N30 hN30 => ?_
    refine pwp_reg fun R31 hR31 => ?_
    refine pops_mv (.inl rfl) rfl (by simp only [St.eval, upd_at, Nat.reduceEqDiff, if_true, if_false, e0_0, e0_20, e0_21, e0_4] <;> rfl) ?_
    refine pops_mv (.inr rfl) rfl (by simp only [St.eval, upd_at, Nat.reduceEqDiff, if_true, if_false, e0_0, e0_20, e0_21, e0_4] <;> rfl) ?_
    refine pops_mv (.inr rfl) rfl (by simp only [St.eval, constSlot] <;> rfl) ?_
    refine pops_done (hR31 _ ?_)
    clear hR31 R31
    try simp only [thenK, scopeK]
    refine hN30 _ ?_
    clear hN30 N30
    refine pwp_ret ?_
    simp only [thenK, blockK, scopeK, bodyK]
    refine ⟨_, rfl, endFun sl0 ?_⟩
    try simp only [upd_at, Nat.reduceEqDiff, if_true, if_false, e0_0, e0_20, e0_21, e0_4]
    all_goals
     rw [c18, hn, List.take_of_length_le (by omega)]; rfl

theorem nm49 : (Tryd.f49.name == "runtime.NumGoroutine") = false := by kernel_rfl
theorem times_fun (W0 : World) (n u : Nat) (hu : 0 < u) (hub : u ≤ 604800000000000) (hn : n ≤ 4611686018427387904 + 1) :
  PFun Tryd.prog W0 49 [.one (pint (n : Nat)), .one (pint (u : Nat))] (.sv (.one (pint (timesV n u : Nat)))) := by
 intro h
 have hq := quo_nat 4611686018427387904 u (by omega)
 refine pcalls2 (n := 12) Tryd.func49 rfl nm49 rfl fun hb => ?_
 refine pwp_then fun N1 hN1 => ?_
 refine pwp_reg fun R2 hR2 => ?_
 refine pops_mv (.inr rfl) rfl (by simp only [St.eval, constSlot] <;> rfl) ?_
 refine pops_done (hR2 _ ?_)
 clear hR2 R2
 try simp only [thenK, scopeK]
 refine hN1 _ ?_
 clear hN1 N1
 refine pwp_then fun N3 hN3 => ?_
 refine pwp_then fun N4 hN4 => ?_
 refine pwp_reg fun R5 hR5 => ?_
 refine pops_mv (.inl rfl) rfl (by simp only [St.eval, upd_at, Nat.reduceEqDiff, if_true, if_false] <;> rfl) ?_
 refine pops_mv (.inl rfl) rfl (by simp only [St.eval, upd_at, Nat.reduceEqDiff, if_true, if_false] <;> rfl) ?_
 refine pops_to rfl fun M hM => ?_
 simp only [pop, St.eval, constSlot, upd_at, Nat.reduceEqDiff, if_true, if_false, popBin, binK, intK, strK, eqK, eq_self, true_and, and_true]
 refine ⟨by omega, ?_⟩
 rw [show (4611686018427387904 : Int) = ((4611686018427387904 : Nat) : Int) from rfl, hq]
 refine hM _ _ ?_
 clear hM M
 refine pops_to rfl fun M hM => ?_
 simp only [pop, St.eval, constSlot, upd_at, Nat.reduceEqDiff, if_true, if_false, popBin, binK, intK, strK, eqK, eq_self, true_and, and_true]
 refine hM _ _ ?_
 clear hM M
 refine pops_done (hR5 _ ?_)
 clear hR5 R5
 try simp only [thenK, scopeK]
 refine hN4 _ ?_
 clear hN4 N4
 refine pwp_cond (by simp only [St.eval, upd_at, Nat.reduceEqDiff, if_true, if_false] <;> rfl) (fun c8 => ?_) (fun c8 => ?_)
 ·skip
  have h8 : 4611686018427387904 / u < n := by have := of_decide_eq_true c8; omega
  refine pwp_then fun N6 hN6 => ?_
  refine pwp_reg fun R7 hR7 => ?_
  refine pops_mv (.inr rfl) rfl (by simp only [St.eval, constSlot] <;> rfl) ?_
  refine pops_done (hR7 _ ?_)
  clear hR7 R7
  try simp only [thenK, scopeK]
  refine hN6 _ ?_
  clear hN6 N6
  refine pwp_ret ?_
  simp only [thenK, blockK, scopeK, bodyK]
  clear hN3 N3
  refine ⟨_, rfl, endFun (Same.refl _) ?_⟩
  try simp only [upd_at, Nat.reduceEqDiff, if_true, if_false]
  all_goals
   rw [timesV, if_pos h8]; rfl
 ·skip
  have h8 : ¬ 4611686018427387904 / u < n := by have := of_decide_eq_false c8; omega
  have hm := mul_nat n u (by have : n * u ≤ 4611686018427387904 := times_le h8; omega)
  refine pwp_skip ?_
  try simp only [thenK, scopeK]
  refine hN3 _ ?_
  clear hN3 N3
  refine pwp_then fun N8 hN8 => ?_
  refine pwp_reg fun R9 hR9 => ?_
  refine pops_mv (.inl rfl) rfl (by simp only [St.eval, upd_at, Nat.reduceEqDiff, if_true, if_false] <;> rfl) ?_
  refine pops_mv (.inl rfl) rfl (by simp only [St.eval, upd_at, Nat.reduceEqDiff, if_true, if_false] <;> rfl) ?_
  refine pops_to rfl fun M hM => ?_
  simp only [pop, St.eval, constSlot, upd_at, Nat.reduceEqDiff, if_true, if_false, popBin, binK, intK, strK, eqK, eq_self, true_and, and_true, hm]
  refine hM _ _ ?_
  clear hM M
  refine pops_mv (.inr rfl) rfl (by simp only [St.eval, upd_at, Nat.reduceEqDiff, if_true, if_false] <;> rfl) ?_
  refine pops_done (hR9 _ ?_)
  clear hR9 R9
  try simp only [thenK, scopeK]
  refine hN8 _ ?_
  clear hN8 N8
  refine pwp_ret ?_
  simp only [thenK, blockK, scopeK, bodyK]
  refine ⟨_, rfl, endFun (Same.refl _) ?_⟩
  try simp only [upd_at, Nat.reduceEqDiff, if_true, if_false]
  all_goals
   rw [timesV, if_neg h8]

theorem nm45 : (Tryd.f45.name == "runtime.NumGoroutine") = false := by kernel_rfl
theorem ageUnits_fun (W0 : World) :
  PFun Tryd.prog W0 45 [] (.sv (.one (.ro true 2 UR))) := by
 intro h
 refine pcalls0 (n := 10) Tryd.func45 rfl nm45 rfl fun hb => ?_
 refine pwp_then fun N1 hN1 => ?_
 refine pwp_reg fun R2 hR2 => ?_
 refine pops_mv (.inr rfl) rfl (by simp only [St.eval, constSlot] <;> rfl) ?_
 refine pops_done (hR2 _ ?_)
 clear hR2 R2
 try simp only [thenK, scopeK]
 refine hN1 _ ?_
 clear hN1 N1
 refine pwp_then fun N3 hN3 => ?_
 refine pwp_reg fun R4 hR4 => ?_
 refine pops_to rfl fun M hM => ?_
 simp only [pop, St.eval, constSlot, upd_at, Nat.reduceEqDiff, if_true, if_false, fillP, slotCells, splice, List.toList_toArray, List.map_cons, List.map_nil, List.length_cons, List.length_nil, Nat.zero_add, Nat.reduceAdd, Nat.reduceLeDiff, List.take_zero, List.take_succ_cons, List.take_nil, List.drop_succ_cons, List.drop_zero, List.drop_nil, List.nil_append, List.cons_append, List.append_nil, and_self, List.getElem?_cons_zero, List.getElem?_cons_succ, List.set_cons_zero, List.set_cons_succ, Option.some.injEq, bd68, eq_self, true_and, and_true, str_list, str_size, str_app, str_cut, str_get]
 refine hM _ _ ?_
 clear hM M
 refine pops_to rfl fun M hM => ?_
 simp only [pop, St.eval, constSlot, upd_at, Nat.reduceEqDiff, if_true, if_false, fillP, slotCells, splice, List.toList_toArray, List.map_cons, List.map_nil, List.length_cons, List.length_nil, Nat.zero_add, Nat.reduceAdd, Nat.reduceLeDiff, List.take_zero, List.take_succ_cons, List.take_nil, List.drop_succ_cons, List.drop_zero, List.drop_nil, List.nil_append, List.cons_append, List.append_nil, and_self, List.getElem?_cons_zero, List.getElem?_cons_succ, List.set_cons_zero, List.set_cons_succ, Option.some.injEq, bd68, eq_self, true_and, and_true, str_list, str_size, str_app, str_cut, str_get]
 refine hM _ _ ?_
 clear hM M
 refine pops_to rfl fun M hM => ?_
 simp only [pop, St.eval, constSlot, upd_at, Nat.reduceEqDiff, if_true, if_false, fillP, slotCells, splice, List.toList_toArray, List.map_cons, List.map_nil, List.length_cons, List.length_nil, Nat.zero_add, Nat.reduceAdd, Nat.reduceLeDiff, List.take_zero, List.take_succ_cons, List.take_nil, List.drop_succ_cons, List.drop_zero, List.drop_nil, List.nil_append, List.cons_append, List.append_nil, and_self, List.getElem?_cons_zero, List.getElem?_cons_succ, List.set_cons_zero, List.set_cons_succ, Option.some.injEq, bd68, eq_self, true_and, and_true, str_list, str_size, str_app, str_cut, str_get]
 refine hM _ _ ?_
 clear hM M
 refine pops_to rfl fun M hM => ?_
 simp only [pop, St.eval, constSlot, upd_at, Nat.reduceEqDiff, if_true, if_false, fillP, slotCells, splice, List.toList_toArray, List.map_cons, List.map_nil, List.length_cons, List.length_nil, Nat.zero_add, Nat.reduceAdd, Nat.reduceLeDiff, List.take_zero, List.take_succ_cons, List.take_nil, List.drop_succ_cons, List.drop_zero, List.drop_nil, List.nil_append, List.cons_append, List.append_nil, and_self, List.getElem?_cons_zero, List.getElem?_cons_succ, List.set_cons_zero, List.set_cons_succ, Option.some.injEq, bd68, eq_self, true_and, and_true, str_list, str_size, str_app, str_cut, str_get]
 refine hM _ _ ?_
 clear hM M
 refine pops_to rfl fun M hM => ?_
 simp only [pop, St.eval, constSlot, upd_at, Nat.reduceEqDiff, if_true, if_false, fillP, slotCells, splice, List.toList_toArray, List.map_cons, List.map_nil, List.length_cons, List.length_nil, Nat.zero_add, Nat.reduceAdd, Nat.reduceLeDiff, List.take_zero, List.take_succ_cons, List.take_nil, List.drop_succ_cons, List.drop_zero, List.drop_nil, List.nil_append, List.cons_append, List.append_nil, and_self, List.getElem?_cons_zero, List.getElem?_cons_succ, List.set_cons_zero, List.set_cons_succ, Option.some.injEq, bd68, eq_self, true_and, and_true, str_list, str_size, str_app, str_cut, str_get]
 refine hM _ _ ?_
 clear hM M
 refine pops_to rfl fun M hM => ?_
 simp only [pop, St.eval, constSlot, upd_at, Nat.reduceEqDiff, if_true, if_false, fillP, slotCells, splice, List.toList_toArray, List.map_cons, List.map_nil, List.length_cons, List.length_nil, Nat.zero_add, Nat.reduceAdd, Nat.reduceLeDiff, List.take_zero, List.take_succ_cons, List.take_nil, List.drop_succ_cons, List.drop_zero, List.drop_nil, List.nil_append, List.cons_append, List.append_nil, and_self, List.getElem?_cons_zero, List.getElem?_cons_succ, List.set_cons_zero, List.set_cons_succ, Option.some.injEq, bd68, eq_self, true_and, and_true, str_list, str_size, str_app, str_cut, str_get]
 refine hM _ _ ?_
 clear hM M
 refine pops_to rfl fun M hM => ?_
 simp only [pop, St.eval, constSlot, upd_at, Nat.reduceEqDiff, if_true, if_false, fillP, slotCells, splice, List.toList_toArray, List.map_cons, List.map_nil, List.length_cons, List.length_nil, Nat.zero_add, Nat.reduceAdd, Nat.reduceLeDiff, List.take_zero, List.take_succ_cons, List.take_nil, List.drop_succ_cons, List.drop_zero, List.drop_nil, List.nil_append, List.cons_append, List.append_nil, and_self, List.getElem?_cons_zero, List.getElem?_cons_succ, List.set_cons_zero, List.set_cons_succ, Option.some.injEq, bd68, eq_self, true_and, and_true, str_list, str_size, str_app, str_cut, str_get]
 refine hM _ _ ?_
 clear hM M
 refine pops_to rfl fun M hM => ?_
 simp only [pop, St.eval, constSlot, upd_at, Nat.reduceEqDiff, if_true, if_false, fillP, slotCells, splice, List.toList_toArray, List.map_cons, List.map_nil, List.length_cons, List.length_nil, Nat.zero_add, Nat.reduceAdd, Nat.reduceLeDiff, List.take_zero, List.take_succ_cons, List.take_nil, List.drop_succ_cons, List.drop_zero, List.drop_nil, List.nil_append, List.cons_append, List.append_nil, and_self, List.getElem?_cons_zero, List.getElem?_cons_succ, List.set_cons_zero, List.set_cons_succ, Option.some.injEq, bd68, eq_self, true_and, and_true, str_list, str_size, str_app, str_cut, str_get]
 refine hM _ _ ?_
 clear hM M
 refine pops_to rfl fun M hM => ?_
 simp only [pop, St.eval, constSlot, upd_at, Nat.reduceEqDiff, if_true, if_false, popBuildSlice, slotCells, List.toList_toArray, List.map_cons, List.map_nil, List.mapM_cons, List.mapM_nil, Option.bind_eq_bind, Option.bind_some, Option.pure_def, Tryd.underlying60, sz68, ze68, by68, eq_self, true_and, and_true, str_list, str_size, str_app, str_cut, str_get]
 refine ⟨by decide, by decide, rfl, rfl, by simp, by decide, rfl, hM _ _ ?_⟩
 clear hM M
 refine pops_mv (.inr rfl) rfl (by simp only [St.eval, upd_at, Nat.reduceEqDiff, if_true, if_false] <;> rfl) ?_
 refine pops_done (hR4 _ ?_)
 clear hR4 R4
 try simp only [thenK, scopeK]
 refine hN3 _ ?_
 clear hN3 N3
 refine pwp_ret ?_
 simp only [thenK, blockK, scopeK, bodyK]
 refine ⟨_, rfl, endFun (Same.refl _) ?_⟩
 try simp only [upd_at, Nat.reduceEqDiff, if_true, if_false]
 all_goals
  rfl
end Go.Pw
