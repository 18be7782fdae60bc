import Derived.Test.YtodafniobppglaaDoorSizeA
namespace Go.Pw
open Go Go.RowKit Go.Proofs
set_option maxRecDepth 100000
set_option linter.unusedSimpArgs false
set_option linter.unusedVariables false
theorem nm59 : (Tryd.f59.name == "runtime.NumGoroutine") = false := by kernel_rfl
theorem fraction_fun (W0 : World) (F : List UInt8) (u : Nat) (hfd : ∀ c ∈ F, digitB c = true) (hub : u ≤ 1099511627776) (hs : F.length ≤ 9223372036854775806) :
  PFun Tryd.prog W0 59 [.one (pstr F), .one (.val (.int .u64 (u : Nat)))] (.sv (.one (.val (.int .u64 (fracV u F : Nat))))) := by
 intro h
 have hw9 : IntKind.i64.wrap (((F.length : Nat) : Int) - 1) = ((F.length : Nat) : Int) - 1 := wrap_i64 (by omega) (by omega)
 refine pcalls2 (n := 25) Tryd.func59 rfl nm59 rfl fun hb => ?_
 refine pwp_then fun N1 hN1 => ?_
 refine pwp_reg fun R2 hR2 => ?_
 refine pops_mv (.inr rfl) rfl (by simp only [St.eval, constSlot] <;> rfl) ?_
 refine pops_done (hR2 _ ?_)
 clear hR2 R2
 try simp only [thenK, scopeK]
 refine hN1 _ ?_
 clear hN1 N1
 refine pwp_then fun N3 hN3 => ?_
 refine pwp_reg fun R4 hR4 => ?_
 refine pops_mv (.inr rfl) rfl (by simp only [St.eval, constSlot] <;> rfl) ?_
 refine pops_done (hR4 _ ?_)
 clear hR4 R4
 try simp only [thenK, scopeK]
 refine hN3 _ ?_
 clear hN3 N3
 refine pwp_then fun N5 hN5 => ?_
 refine pwp_then fun N6 hN6 => ?_
 refine pwp_reg fun R7 hR7 => ?_
 refine pops_mv (.inl rfl) rfl (by simp only [St.eval, upd_at, Nat.reduceEqDiff, if_true, if_false] <;> rfl) ?_
 refine pops_to rfl fun M hM => ?_
 simp only [pop, St.eval, constSlot, upd_at, Nat.reduceEqDiff, if_true, if_false, popCall, List.toList_toArray, List.map_cons, List.map_nil, popBuiltin, popLen, lenOfSlot, List.length_map, Tryd.underlying9, eq_self, true_and, and_true, str_list, str_size, str_app, str_cut, str_get]
 refine hM _ _ ?_
 clear hM M
 refine pops_to rfl fun M hM => ?_
 simp only [pop, St.eval, constSlot, upd_at, Nat.reduceEqDiff, if_true, if_false, popBin, binK, intK, strK, eqK, eq_self, true_and, and_true, hw9]
 refine hM _ _ ?_
 clear hM M
 refine pops_mv (.inr rfl) rfl (by simp only [St.eval, upd_at, Nat.reduceEqDiff, if_true, if_false] <;> rfl) ?_
 refine pops_done (hR7 _ ?_)
 clear hR7 R7
 try simp only [thenK, scopeK]
 refine hN6 _ ?_
 clear hN6 N6
 refine pwp_block ?_
 refine pwp_loop (fun k σ => ∃ (i : Nat), (k = i) ∧ (i ≤ F.length) ∧ (Same h σ.hp) ∧ (σ.env 0 = .sv (.one (pstr F))) ∧ (σ.env 1 = .sv (.one (.val (.int .u64 (u : Nat))))) ∧ (σ.env 5 = .sv (.one (.val (.int .u64 (fracV u (F.drop i) : Nat))))) ∧ (σ.env 6 = .sv (.one (pint ((i : Int) - 1))))) _ ⟨_, .refl _ _, F.length, rfl, ?_⟩ ?_
 · exact ⟨Nat.le_refl _, (Same.refl _), by simp only [upd_at, Nat.reduceEqDiff, if_true, if_false], by simp only [upd_at, Nat.reduceEqDiff, if_true, if_false], by simp only [upd_at, Nat.reduceEqDiff, if_true, if_false, List.drop_length]; rfl, by simp only [upd_at, Nat.reduceEqDiff, if_true, if_false]⟩
 ·rintro k ⟨e, hp0⟩ ⟨i, hk0, hx0_0, sl0, e0_0, e0_1, e0_5, e0_6⟩
  simp only at sl0 e0_0 e0_1 e0_5 e0_6
  refine pwp_then fun N8 hN8 => ?_
  refine pwp_then fun N9 hN9 => ?_
  refine pwp_reg fun R10 hR10 => ?_
  refine pops_mv (.inl rfl) rfl (by simp only [St.eval, upd_at, Nat.reduceEqDiff, if_true, if_false, e0_0, e0_1, e0_5, e0_6] <;> rfl) ?_
  refine pops_to rfl fun M hM => ?_
  simp only [pop, St.eval, constSlot, upd_at, Nat.reduceEqDiff, if_true, if_false, popBin, binK, intK, strK, eqK, eq_self, true_and, and_true, e0_0, e0_1, e0_5, e0_6]
  refine hM _ _ ?_
  clear hM M
  refine pops_done (hR10 _ ?_)
  clear hR10 R10
  try simp only [thenK, scopeK]
  refine hN9 _ ?_
  clear hN9 N9
  refine pwp_cond (by simp only [St.eval, upd_at, Nat.reduceEqDiff, if_true, if_false, e0_0, e0_1, e0_5, e0_6] <;> rfl) (fun c11 => ?_) (fun c11 => ?_)
  ·skip
   have h49 := of_decide_eq_true c11
   obtain ⟨j, rfl⟩ : ∃ j, i = j + 1 := ⟨i - 1, by omega⟩
   have e54 : ((j + 1 : Nat) : Int) - 1 = (j : Int) := by omega
   have hx := getD_some (s := F) (i := j) (by omega)
   obtain ⟨x, hxx, hx9⟩ := digit_val (hfd _ (List.mem_of_getElem? hx))
   have hfa := frac_at (u := u) hx
   rw [hxx, show 48 + x - 48 = x by omega] at hfa
   have hxu : x * u ≤ 9 * u := Nat.mul_le_mul_right _ hx9
   have hpl := fracV_le (u := u) (f := F.drop (j + 1)) (fun c hc => hfd c (List.mem_of_mem_drop hc))
   have hw56 : IntKind.u8.wrap (((F.getD j 0).toNat : Int) - 48) = (x : Int) := by rw [wrap_u8 (by omega) (by omega)]; omega
   have hw57 : IntKind.u64.wrap (x : Int) = (x : Int) := wrap_u64 (by omega) (by omega)
   have hw59 : IntKind.u64.wrap ((x : Int) * (u : Int)) = ((x * u : Nat) : Int) := by rw [← Int.natCast_mul, wrap_u64 (by omega) (by omega)]
   have hw60 : IntKind.u64.wrap (((x * u : Nat) : Int) + ((fracV u (F.drop (j + 1)) : Nat) : Int)) = ((fracV u (F.drop (j + 1)) + x * u : Nat) : Int) := by rw [wrap_u64 (by omega) (by omega)]; omega
   have hw61 : IntKind.u64.wrap (Int.tdiv ((fracV u (F.drop (j + 1)) + x * u : Nat) : Int) 10) = ((fracV u (F.drop j) : Nat) : Int) := by rw [hfa]; exact quo_u64 _ 10 (by omega)
   refine pwp_skip ?_
   try simp only [thenK, scopeK]
   refine hN8 _ ?_
   clear hN8 N8
   refine pwp_then fun N11 hN11 => ?_
   refine pwp_block ?_
   refine pwp_reg fun R12 hR12 => ?_
   refine pops_mv (.inl rfl) rfl (by simp only [St.eval, upd_at, Nat.reduceEqDiff, if_true, if_false, e0_0, e0_1, e0_5, e0_6] <;> rfl) ?_
   refine pops_mv (.inl rfl) rfl (by simp only [St.eval, upd_at, Nat.reduceEqDiff, if_true, if_false, e0_0, e0_1, e0_5, e0_6] <;> rfl) ?_
   refine pops_to rfl fun M hM => ?_
   simp only [pop, St.eval, constSlot, upd_at, Nat.reduceEqDiff, if_true, if_false, popIndex, partK, Tryd.underlying9, eq_self, true_and, and_true, str_list, str_size, str_app, str_cut, str_get, e0_0, e0_1, e0_5, e0_6, e54, hx, Int.toNat_natCast]
   refine ⟨Int.natCast_nonneg _, hM _ _ ?_⟩
   clear hM M
   refine pops_to rfl fun M hM => ?_
   simp only [pop, St.eval, constSlot, upd_at, Nat.reduceEqDiff, if_true, if_false, popBin, binK, intK, strK, eqK, eq_self, true_and, and_true, e0_0, e0_1, e0_5, e0_6, hw56]
   refine hM _ _ ?_
   clear hM M
   refine pops_to rfl fun M hM => ?_
   simp only [pop, St.eval, constSlot, upd_at, Nat.reduceEqDiff, if_true, if_false, popConvert, Tryd.underlying5, Tryd.underlying73, eq_self, true_and, and_true, str_list, str_size, str_app, str_cut, str_get, e0_0, e0_1, e0_5, e0_6, hw57]
   refine hM _ _ ?_
   clear hM M
   refine pops_mv (.inl rfl) rfl (by simp only [St.eval, upd_at, Nat.reduceEqDiff, if_true, if_false, e0_0, e0_1, e0_5, e0_6] <;> rfl) ?_
   refine pops_to rfl fun M hM => ?_
   simp only [pop, St.eval, constSlot, upd_at, Nat.reduceEqDiff, if_true, if_false, popBin, binK, intK, strK, eqK, eq_self, true_and, and_true, e0_0, e0_1, e0_5, e0_6, hw59]
   refine hM _ _ ?_
   clear hM M
   refine pops_mv (.inl rfl) rfl (by simp only [St.eval, upd_at, Nat.reduceEqDiff, if_true, if_false, e0_0, e0_1, e0_5, e0_6] <;> rfl) ?_
   refine pops_to rfl fun M hM => ?_
   simp only [pop, St.eval, constSlot, upd_at, Nat.reduceEqDiff, if_true, if_false, popBin, binK, intK, strK, eqK, eq_self, true_and, and_true, e0_0, e0_1, e0_5, e0_6, hw60]
   refine hM _ _ ?_
   clear hM M
   refine pops_to rfl fun M hM => ?_
   simp only [pop, St.eval, constSlot, upd_at, Nat.reduceEqDiff, if_true, if_false, popBin, binK, intK, strK, eqK, eq_self, true_and, and_true, e0_0, e0_1, e0_5, e0_6, hw61]
   refine ⟨by decide, hM _ _ ?_⟩
   clear hM M
   refine pops_mv (.inr rfl) rfl (by simp only [St.eval, upd_at, Nat.reduceEqDiff, if_true, if_false, e0_0, e0_1, e0_5, e0_6] <;> rfl) ?_
   refine pops_done (hR12 _ ?_)
   clear hR12 R12
   try simp only [blockK, thenK, scopeK]
   try simp only [thenK, scopeK]
   refine hN11 _ ?_
   clear hN11 N11
   refine pwp_reg fun R13 hR13 => ?_
   refine pops_mv (.inl rfl) rfl (by simp only [St.eval, upd_at, Nat.reduceEqDiff, if_true, if_false, e0_0, e0_1, e0_5, e0_6] <;> rfl) ?_
   refine pops_to rfl fun M hM => ?_
   simp only [pop, St.eval, constSlot, upd_at, Nat.reduceEqDiff, if_true, if_false, popBin, binK, intK, strK, eqK, eq_self, true_and, and_true, e0_0, e0_1, e0_5, e0_6]
   refine hM _ _ ?_
   clear hM M
   refine pops_mv (.inr rfl) rfl (by simp only [St.eval, upd_at, Nat.reduceEqDiff, if_true, if_false, e0_0, e0_1, e0_5, e0_6] <;> rfl) ?_
   refine pops_done (hR13 _ ?_)
   clear hR13 R13
   try simp only [thenK, scopeK]
   exact ⟨_, by omega, _, .refl _ _, j, rfl, by omega, sl0, by simp only [upd_at, Nat.reduceEqDiff, if_true, if_false, e0_0, e0_1, e0_5, e0_6], by simp only [upd_at, Nat.reduceEqDiff, if_true, if_false, e0_0, e0_1, e0_5, e0_6], by simp only [upd_at, Nat.reduceEqDiff, if_true, if_false, e0_0, e0_1, e0_5, e0_6], by simp only [upd_at, Nat.reduceEqDiff, if_true, if_false, e0_6, e54]; rw [wrap_i64 (by omega) (by omega)]⟩
  ·skip
   have h49 := of_decide_eq_false c11
   obtain rfl : i = 0 := by omega
   rw [List.drop_zero] at e0_5
   refine pwp_exit ?_
   try simp only [thenK, blockK, scopeK, if_true, Nat.reduceEqDiff, if_false]
   clear hN8 N8
   try simp only [blockK, scopeK, if_true, Nat.reduceEqDiff, if_false, thenK]
   try simp only [thenK, scopeK]
   refine hN5 _ ?_
   clear hN5 N5
   refine pwp_then fun N14 hN14 => ?_
   refine pwp_reg fun R15 hR15 => ?_
   refine pops_mv (.inl rfl) rfl (by simp only [St.eval, upd_at, Nat.reduceEqDiff, if_true, if_false, e0_0, e0_1, e0_5, e0_6] <;> rfl) ?_
   refine pops_mv (.inr rfl) rfl (by simp only [St.eval, upd_at, Nat.reduceEqDiff, if_true, if_false, e0_0, e0_1, e0_5, e0_6] <;> rfl) ?_
   refine pops_done (hR15 _ ?_)
   clear hR15 R15
   try simp only [thenK, scopeK]
   refine hN14 _ ?_
   clear hN14 N14
   refine pwp_ret ?_
   simp only [thenK, blockK, scopeK, bodyK]
   refine ⟨_, rfl, endFun sl0 ?_⟩
   try simp only [upd_at, Nat.reduceEqDiff, if_true, if_false, e0_0, e0_1, e0_5, e0_6]
   all_goals
    rfl

theorem nm24 : (Tryd.f24.name == "runtime.NumGoroutine") = false := by kernel_rfl
set_option maxHeartbeats 8000000 in
theorem parseSizeRef_fun (W0 : World) (hm : HasMax W0) (hE : HasErr W0) (s : List UInt8) (hs : s.length < 4294967281) :
  PFun Tryd.prog W0 24 [.one (pstr s)] (.tup [.one (pint (sizeR s).1), .one (pint (sizeR s).2)]) := by
 intro h
 refine pcalls1 (n := 96) Tryd.func24 rfl nm24 rfl fun hb => ?_
 refine pwp_then fun N1 hN1 => ?_
 refine pwp_reg fun R2 hR2 => ?_
 refine pops_mv (.inr rfl) rfl (by simp only [St.eval, constSlot] <;> rfl) ?_
 refine pops_mv (.inr rfl) rfl (by simp only [St.eval, constSlot] <;> rfl) ?_
 refine pops_done (hR2 _ ?_)
 clear hR2 R2
 try simp only [thenK, scopeK]
 refine hN1 _ ?_
 clear hN1 N1
 refine pwp_then fun N3 hN3 => ?_
 refine pwp_reg fun R4 hR4 => ?_
 refine pops_mv (.inr rfl) rfl (by simp only [St.eval, constSlot] <;> rfl) ?_
 refine pops_done (hR4 _ ?_)
 clear hR4 R4
 try simp only [thenK, scopeK]
 refine hN3 _ ?_
 clear hN3 N3
 refine pwp_then fun N5 hN5 => ?_
 refine pwp_then fun N6 hN6 => ?_
 refine pwp_reg fun R7 hR7 => ?_
 refine pops_mv (.inl rfl) rfl (by simp only [St.eval, upd_at, Nat.reduceEqDiff, if_true, if_false] <;> rfl) ?_
 refine pops_to rfl fun M hM => ?_
 simp only [pop, St.eval, constSlot, upd_at, Nat.reduceEqDiff, if_true, if_false, popCall, List.toList_toArray, List.map_cons, List.map_nil, popBuiltin, popLen, lenOfSlot, List.length_map, Tryd.underlying9, eq_self, true_and, and_true, str_list, str_size, str_app, str_cut, str_get]
 refine hM _ _ ?_
 clear hM M
 refine pops_mv (.inr rfl) rfl (by simp only [St.eval, upd_at, Nat.reduceEqDiff, if_true, if_false] <;> rfl) ?_
 refine pops_done (hR7 _ ?_)
 clear hR7 R7
 try simp only [thenK, scopeK]
 refine hN6 _ ?_
 clear hN6 N6
 refine pwp_then fun N8 hN8 => ?_
 refine pwp_reg fun R9 hR9 => ?_
 refine pops_mv (.inl rfl) rfl (by simp only [St.eval, upd_at, Nat.reduceEqDiff, if_true, if_false] <;> rfl) ?_
 refine pops_to rfl fun M hM => ?_
 simp only [pop, St.eval, constSlot, upd_at, Nat.reduceEqDiff, if_true, if_false, popBin, binK, intK, strK, eqK, eq_self, true_and, and_true]
 refine hM _ _ ?_
 clear hM M
 refine pops_done (hR9 _ ?_)
 clear hR9 R9
 try simp only [thenK, scopeK]
 refine hN8 _ ?_
 clear hN8 N8
 refine pwp_cond (by simp only [St.eval, upd_at, Nat.reduceEqDiff, if_true, if_false] <;> rfl) (fun c17 => ?_) (fun c17 => ?_)
 ·skip
  have h17 := of_decide_eq_true c17
  obtain ⟨n, hn⟩ : ∃ n, s.length = n + 1 := ⟨s.length - 1, by omega⟩
  have hw20 : IntKind.i64.wrap (((s.length : Nat) : Int) - 1) = (n : Int) := by rw [wrap_i64 (by omega) (by omega)]; omega
  obtain ⟨hx21, hlast⟩ := last_get hn
  refine pwp_then fun N10 hN10 => ?_
  refine pwp_reg fun R11 hR11 => ?_
  refine pops_mv (.inl rfl) rfl (by simp only [St.eval, upd_at, Nat.reduceEqDiff, if_true, if_false] <;> rfl) ?_
  refine pops_mv (.inl rfl) rfl (by simp only [St.eval, upd_at, Nat.reduceEqDiff, if_true, if_false] <;> rfl) ?_
  refine pops_to rfl fun M hM => ?_
  simp only [pop, St.eval, constSlot, upd_at, Nat.reduceEqDiff, if_true, if_false, popBin, binK, intK, strK, eqK, eq_self, true_and, and_true, hw20]
  refine hM _ _ ?_
  clear hM M
  refine pops_to rfl fun M hM => ?_
  simp only [pop, St.eval, constSlot, upd_at, Nat.reduceEqDiff, if_true, if_false, popIndex, partK, Tryd.underlying9, eq_self, true_and, and_true, str_list, str_size, str_app, str_cut, str_get, hx21, Int.toNat_natCast]
  refine ⟨Int.natCast_nonneg _, hM _ _ ?_⟩
  clear hM M
  refine pops_to rfl fun M hM => ?_
  simp only [pop, St.eval, constSlot, upd_at, Nat.reduceEqDiff, if_true, if_false, popCall, List.toList_toArray, List.map_cons, List.map_nil, svs, List.mapM_cons, List.mapM_nil, Option.bind_eq_bind, Option.bind_some, Option.pure_def, List.append_nil, List.cons_append, List.nil_append, str_size]
  refine PFun.use (indexByte_fun W0 [98, 107, 77, 71, 84] (s.getD n 0)) fun h1 s1 => hM _ _ ?_
  replace s1 := Same.trans (Same.refl _) s1
  clear hM M
  refine pops_mv (.inr rfl) rfl (by simp only [St.eval, upd_at, Nat.reduceEqDiff, if_true, if_false] <;> rfl) ?_
  refine pops_done (hR11 _ ?_)
  clear hR11 R11
  try simp only [thenK, scopeK]
  refine hN10 _ ?_
  clear hN10 N10
  refine pwp_then fun N12 hN12 => ?_
  refine pwp_reg fun R13 hR13 => ?_
  refine pops_mv (.inl rfl) rfl (by simp only [St.eval, upd_at, Nat.reduceEqDiff, if_true, if_false] <;> rfl) ?_
  refine pops_to rfl fun M hM => ?_
  simp only [pop, St.eval, constSlot, upd_at, Nat.reduceEqDiff, if_true, if_false, popBin, binK, intK, strK, eqK, eq_self, true_and, and_true]
  refine hM _ _ ?_
  clear hM M
  refine pops_done (hR13 _ ?_)
  clear hR13 R13
  try simp only [thenK, scopeK]
  refine hN12 _ ?_
  clear hN12 N12
  refine pwp_cond (by simp only [St.eval, upd_at, Nat.reduceEqDiff, if_true, if_false] <;> rfl) (fun c24 => ?_) (fun c24 => ?_)
  ·skip
   rw [ix_suf] at c24
   have h24 := of_decide_eq_true c24
   have hdl : s.take n = s.dropLast := take_last s n hn
   have hstr : stripR s = ((sufZ (s.getD n 0)).toNat, s.dropLast) := by unfold stripR; rw [hlast]; exact if_neg (by omega)
   have hz4 : sufZ (s.getD n 0) ≤ 4 := by rcases suf_unit (s.getD n 0) with h | h <;> omega
   obtain ⟨u, hu⟩ : ∃ u : Nat, u = (stripR s).1 := ⟨_, rfl⟩
   obtain ⟨T, hT⟩ : ∃ T : List UInt8, T = (stripR s).2 := ⟨_, rfl⟩
   have hu4 : u ≤ 4 := by rw [hu]; exact strip_le s
   have hTl : T.length ≤ s.length := by rw [hT]; exact strip_len s
   have hend0 : sizeR s = sizeT u T := by rw [sizeR, hu, hT]
   have hpu := pow_u hu4
   have htw := tw46_len T
   have hT2 : s.dropLast = T := by rw [hT, hstr]
   have hu2 : u = (sufZ (s.getD n 0)).toNat := by rw [hu, hstr]
   obtain ⟨hge, hshl⟩ := shl_u (sufZ (s.getD n 0)) ⟨by omega, hz4⟩
   rw [← hu2] at hshl
   rw [← ix_suf] at hge hshl
   refine pwp_dreg 7 mixed (by decide +kernel) fun R14 hR14 => ?_
   simp only [List.take_succ_cons, List.take_zero, List.drop_succ_cons, List.drop_zero]
   apply lex_to
   · rfl
   ·intro h' s' M hM
    simp only [pop, St.eval, constSlot, upd_at, Nat.reduceEqDiff, if_true, if_false, eq_self, true_and, and_true, str_list, str_size, str_app, str_cut, str_get, hT2, s'.1]
    exact hM _ (.refl _)
   apply lex_to
   · rfl
   ·intro h' s' M hM
    simp only [pop, St.eval, constSlot, upd_at, Nat.reduceEqDiff, if_true, if_false, eq_self, true_and, and_true, str_list, str_size, str_app, str_cut, str_get, hT2, s'.1]
    exact hM _ (.refl _)
   apply lex_to
   · rfl
   ·intro h' s' M hM
    simp only [pop, St.eval, constSlot, upd_at, Nat.reduceEqDiff, if_true, if_false, eq_self, true_and, and_true, str_list, str_size, str_app, str_cut, str_get, hT2, s'.1]
    exact hM _ (.refl _)
   apply lex_to
   · rfl
   ·intro h' s' M hM
    simp only [pop, St.eval, constSlot, upd_at, Nat.reduceEqDiff, if_true, if_false, popBin, binK, intK, strK, eqK, eq_self, true_and, and_true, hT2, hw20, s'.1]
    exact hM _ (.refl _)
   apply lex_to
   · rfl
   ·intro h' s' M hM
    simp only [pop, St.eval, constSlot, upd_at, Nat.reduceEqDiff, if_true, if_false, popSlice, boundOf, Option.map_none, Option.map_some, Tryd.underlying9, eq_self, true_and, and_true, str_list, str_size, str_app, str_cut, str_get, hT2, Int.toNat_natCast, List.drop_zero, Int.toNat_zero, hdl, s'.1]
    refine ⟨by omega, by omega, by omega, ?_⟩
    exact hM _ (.refl _)
   apply lex_to
   · rfl
   ·intro h' s' M hM
    simp only [pop, St.eval, constSlot, upd_at, Nat.reduceEqDiff, if_true, if_false, eq_self, true_and, and_true, str_list, str_size, str_app, str_cut, str_get, hT2, s'.1]
    exact hM _ (.refl _)
   apply lex_to
   · rfl
   ·intro h' s' M hM
    simp only [pop, St.eval, constSlot, upd_at, Nat.reduceEqDiff, if_true, if_false, eq_self, true_and, and_true, str_list, str_size, str_app, str_cut, str_get, hT2, s'.1]
    exact hM _ (.refl _)
   refine lex_done fun hq sq => ?_
   replace sq := Same.trans s1 sq
   refine pops_done (hR14 _ ?_)
   clear hR14 R14
   try simp only [thenK, scopeK]
   refine hN5 _ ?_
   clear hN5 N5
   refine pwp_then fun N15 hN15 => ?_
   refine pwp_reg fun R16 hR16 => ?_
   refine pops_mv (.inl rfl) rfl (by simp only [St.eval, upd_at, Nat.reduceEqDiff, if_true, if_false, hT2] <;> rfl) ?_
   refine pops_to rfl fun M hM => ?_
   simp only [pop, St.eval, constSlot, upd_at, Nat.reduceEqDiff, if_true, if_false, popCall, List.toList_toArray, List.map_cons, List.map_nil, svs, List.mapM_cons, List.mapM_nil, Option.bind_eq_bind, Option.bind_some, Option.pure_def, List.append_nil, List.cons_append, List.nil_append, str_size, hT2]
   refine PFun.use (cut_fun W0 hm T (by omega)) fun h2 s2 => hM _ _ ?_
   replace s2 := Same.trans sq s2
   clear hM M
   refine pops_mv (.inl rfl) rfl (by simp only [St.eval, upd_at, Nat.reduceEqDiff, if_true, if_false, hT2] <;> rfl) ?_
   refine pops_to rfl fun M hM => ?_
   simp only [pop, St.eval, constSlot, upd_at, Nat.reduceEqDiff, if_true, if_false, List.getElem?_toArray, List.getElem?_cons_zero, List.getElem?_cons_succ, hT2]
   refine hM _ _ ?_
   clear hM M
   refine pops_to rfl fun M hM => ?_
   simp only [pop, St.eval, constSlot, upd_at, Nat.reduceEqDiff, if_true, if_false, List.getElem?_toArray, List.getElem?_cons_zero, List.getElem?_cons_succ, hT2]
   refine hM _ _ ?_
   clear hM M
   refine pops_to rfl fun M hM => ?_
   simp only [pop, St.eval, constSlot, upd_at, Nat.reduceEqDiff, if_true, if_false, List.getElem?_toArray, List.getElem?_cons_zero, List.getElem?_cons_succ, hT2]
   refine hM _ _ ?_
   clear hM M
   refine pops_mv (.inr rfl) rfl (by simp only [St.eval, upd_at, Nat.reduceEqDiff, if_true, if_false, hT2] <;> rfl) ?_
   refine pops_mv (.inr rfl) rfl (by simp only [St.eval, upd_at, Nat.reduceEqDiff, if_true, if_false, hT2] <;> rfl) ?_
   refine pops_mv (.inr rfl) rfl (by simp only [St.eval, upd_at, Nat.reduceEqDiff, if_true, if_false, hT2] <;> rfl) ?_
   refine pops_done (hR16 _ ?_)
   clear hR16 R16
   try simp only [thenK, scopeK]
   refine hN15 _ ?_
   clear hN15 N15
   refine pwp_then fun N17 hN17 => ?_
   refine pwp_then fun N18 hN18 => ?_
   refine pwp_reg fun R19 hR19 => ?_
   refine pops_mv (.inl rfl) rfl (by simp only [St.eval, upd_at, Nat.reduceEqDiff, if_true, if_false, hT2] <;> rfl) ?_
   refine pops_to rfl fun M hM => ?_
   simp only [pop, St.eval, constSlot, upd_at, Nat.reduceEqDiff, if_true, if_false, popBin, binK, intK, strK, eqK, Tryd.underlying9, isPtr, eq_self, true_and, and_true, str_list, str_size, str_app, str_cut, str_get, hT2]
   refine hM _ _ ?_
   clear hM M
   refine pops_mv (.inl rfl) rfl (by simp only [St.eval, upd_at, Nat.reduceEqDiff, if_true, if_false, hT2] <;> rfl) ?_
   apply pops_or 4 38 42 [39, 40, 41] (by simp only [upd_at, Nat.reduceEqDiff, if_true, if_false, hT2] <;> rfl)
   ·skip
    intro g38_0 J20 hJ20
    simp only [List.take_succ_cons, List.take_zero]
    simp only [anyAt_cons, anyAt_nil] at hJ20
    refine pops_mvg (.inl rfl) rfl rfl (by simp only [upd_at, Nat.reduceEqDiff, if_true, if_false, hT2, g38_0]) (by simp only [St.eval, upd_at, Nat.reduceEqDiff, if_true, if_false, hT2, g38_0] <;> rfl) ?_
    refine pops_do rfl rfl (by simp only [upd_at, Nat.reduceEqDiff, if_true, if_false, hT2, g38_0]) fun M hM => ?_
    simp only [pop, St.eval, constSlot, upd_at, Nat.reduceEqDiff, if_true, if_false, popCall, List.toList_toArray, List.map_cons, List.map_nil, svs, List.mapM_cons, List.mapM_nil, Option.bind_eq_bind, Option.bind_some, Option.pure_def, List.append_nil, List.cons_append, List.nil_append, str_size, hT2, g38_0]
    refine PFun.use (trim_fun W0 (T.takeWhile not46) (by omega)) fun h3 s3 => hM _ _ ?_
    replace s3 := Same.trans (Same.refl _) s3
    clear hM M
    refine pops_do rfl rfl (by simp only [upd_at, Nat.reduceEqDiff, if_true, if_false, hT2, g38_0]) fun M hM => ?_
    simp only [pop, St.eval, constSlot, upd_at, Nat.reduceEqDiff, if_true, if_false, popBin, binK, intK, strK, eqK, Tryd.underlying9, isPtr, eq_self, true_and, and_true, str_list, str_size, str_app, str_cut, str_get, hT2, g38_0]
    refine hM _ _ ?_
    clear hM M
    refine pops_to rfl fun M hM => ?_
    simp only [pop, St.eval, constSlot, upd_at, Nat.reduceEqDiff, if_true, if_false, popIf, true_implies, false_implies, Bool.true_eq_false, Bool.false_eq_true, reduceCtorEq, true_and, and_true, hT2, g38_0]
    refine hM _ _ ?_
    clear hM M
    exact pops_done (hJ20 _ _ s3 (wk_same (wk_any ((wk_any ((wk_any (Wk.refl _ _))))))))
   ·skip
    intro g38_0 J20 hJ20
    simp only [List.take_succ_cons, List.take_zero]
    simp only [anyAt_cons, anyAt_nil] at hJ20
    refine pops_off (b := true) rfl rfl (by simp only [upd_at, Nat.reduceEqDiff, if_true, if_false, hT2, g38_0]) (by decide) ?_
    refine pops_off (b := true) rfl rfl (by simp only [upd_at, Nat.reduceEqDiff, if_true, if_false, hT2, g38_0]) (by decide) ?_
    refine pops_off (b := true) rfl rfl (by simp only [upd_at, Nat.reduceEqDiff, if_true, if_false, hT2, g38_0]) (by decide) ?_
    refine pops_to rfl fun M hM => ?_
    simp only [pop, St.eval, constSlot, upd_at, Nat.reduceEqDiff, if_true, if_false, popIf, true_implies, false_implies, Bool.true_eq_false, Bool.false_eq_true, reduceCtorEq, true_and, and_true, hT2, g38_0]
    refine hM _ _ ?_
    clear hM M
    exact pops_done (hJ20 _ _ (Same.refl _) (wk_same (wk_any ((wk_any ((wk_any (Wk.refl _ _))))))))
   simp only [List.drop_succ_cons, List.drop_zero, anyAt_cons, anyAt_nil]
   intro hj20 sj20
   replace sj20 := Same.trans s2 sj20
   refine pops_mv (.inl rfl) rfl (by simp only [St.eval, upd_at, Nat.reduceEqDiff, if_true, if_false, hT2] <;> rfl) ?_
   apply pops_or0 9 43 52 [44, 45, 46, 47, 48, 49, 50, 51] (by simp only [upd_at, Nat.reduceEqDiff, if_true, if_false, hT2] <;> rfl)
   ·skip
    intro g43_0 J21 hJ21
    simp only [List.take_succ_cons, List.take_zero]
    simp only [anyAt_cons, anyAt_nil] at hJ21
    refine pops_mvg (.inl rfl) rfl rfl (by simp only [upd_at, Nat.reduceEqDiff, if_true, if_false, hT2, g43_0]) (by simp only [St.eval, upd_at, Nat.reduceEqDiff, if_true, if_false, hT2, g43_0] <;> rfl) ?_
    refine pops_do rfl rfl (by simp only [upd_at, Nat.reduceEqDiff, if_true, if_false, hT2, g43_0]) fun M hM => ?_
    simp only [pop, St.eval, constSlot, upd_at, Nat.reduceEqDiff, if_true, if_false, popCall, List.toList_toArray, List.map_cons, List.map_nil, popBuiltin, popLen, lenOfSlot, List.length_map, Tryd.underlying9, eq_self, true_and, and_true, str_list, str_size, str_app, str_cut, str_get, hT2, g43_0]
    refine hM _ _ ?_
    clear hM M
    refine pops_do rfl rfl (by simp only [upd_at, Nat.reduceEqDiff, if_true, if_false, hT2, g43_0]) fun M hM => ?_
    simp only [pop, St.eval, constSlot, upd_at, Nat.reduceEqDiff, if_true, if_false, popBin, binK, intK, strK, eqK, eq_self, true_and, and_true, hT2, g43_0]
    refine hM _ _ ?_
    clear hM M
    refine pops_mvg (.inl rfl) rfl rfl (by simp only [upd_at, Nat.reduceEqDiff, if_true, if_false, hT2, g43_0]) (by simp only [St.eval, upd_at, Nat.reduceEqDiff, if_true, if_false, hT2, g43_0] <;> rfl) ?_
    apply pops_and0 4 47 51 [48, 49, 50] (by simp only [upd_at, Nat.reduceEqDiff, if_true, if_false, hT2, g43_0] <;> rfl)
    ·skip
     intro g47_1 J22 hJ22
     simp only [List.take_succ_cons, List.take_zero]
     simp only [anyAt_cons, anyAt_nil] at hJ22
     have hx49 := getD_some (s := (T.takeWhile not46)) (i := 0) (by have := of_decide_eq_true g47_1; omega)
     refine pops_mvg (.inl rfl) rfl rfl (by simp only [upd_at, Nat.reduceEqDiff, if_true, if_false, hT2, g43_0, g47_1]) (by simp only [St.eval, upd_at, Nat.reduceEqDiff, if_true, if_false, hT2, g43_0, g47_1] <;> rfl) ?_
     refine pops_do rfl rfl (by simp only [upd_at, Nat.reduceEqDiff, if_true, if_false, hT2, g43_0, g47_1]) fun M hM => ?_
     simp only [pop, St.eval, constSlot, upd_at, Nat.reduceEqDiff, if_true, if_false, popIndex, partK, Tryd.underlying9, eq_self, true_and, and_true, str_list, str_size, str_app, str_cut, str_get, hT2, g43_0, g47_1, hx49, Int.toNat_zero]
     refine ⟨by decide, hM _ _ ?_⟩
     clear hM M
     refine pops_do rfl rfl (by simp only [upd_at, Nat.reduceEqDiff, if_true, if_false, hT2, g43_0, g47_1]) fun M hM => ?_
     simp only [pop, St.eval, constSlot, upd_at, Nat.reduceEqDiff, if_true, if_false, popBin, binK, intK, strK, eqK, Tryd.underlying5, isPtr, eq_self, true_and, and_true, hT2, g43_0, g47_1]
     refine hM _ _ ?_
     clear hM M
     refine pops_do rfl rfl (by simp only [upd_at, Nat.reduceEqDiff, if_true, if_false, hT2, g43_0, g47_1]) fun M hM => ?_
     simp only [pop, St.eval, constSlot, upd_at, Nat.reduceEqDiff, if_true, if_false, popIf, true_implies, false_implies, Bool.true_eq_false, Bool.false_eq_true, reduceCtorEq, true_and, and_true, hT2, g43_0, g47_1]
     refine hM _ _ ?_
     clear hM M
     exact pops_done (hJ22 _ (wk_same (wk_any ((wk_any ((wk_any (Wk.refl _ _))))))))
    ·skip
     intro g47_1 J22 hJ22
     simp only [List.take_succ_cons, List.take_zero]
     simp only [anyAt_cons, anyAt_nil] at hJ22
     refine pops_off (b := false) rfl rfl (by simp only [upd_at, Nat.reduceEqDiff, if_true, if_false, hT2, g43_0, g47_1]) (by decide) ?_
     refine pops_off (b := false) rfl rfl (by simp only [upd_at, Nat.reduceEqDiff, if_true, if_false, hT2, g43_0, g47_1]) (by decide) ?_
     refine pops_off (b := false) rfl rfl (by simp only [upd_at, Nat.reduceEqDiff, if_true, if_false, hT2, g43_0, g47_1]) (by decide) ?_
     refine pops_do rfl rfl (by simp only [upd_at, Nat.reduceEqDiff, if_true, if_false, hT2, g43_0, g47_1]) fun M hM => ?_
     simp only [pop, St.eval, constSlot, upd_at, Nat.reduceEqDiff, if_true, if_false, popIf, true_implies, false_implies, Bool.true_eq_false, Bool.false_eq_true, reduceCtorEq, true_and, and_true, hT2, g43_0, g47_1]
     refine hM _ _ ?_
     clear hM M
     exact pops_done (hJ22 _ (wk_same (wk_any ((wk_any ((wk_any (Wk.refl _ _))))))))
    simp only [List.drop_succ_cons, List.drop_zero, anyAt_cons, anyAt_nil]
    refine pops_to rfl fun M hM => ?_
    simp only [pop, St.eval, constSlot, upd_at, Nat.reduceEqDiff, if_true, if_false, popIf, true_implies, false_implies, Bool.true_eq_false, Bool.false_eq_true, reduceCtorEq, true_and, and_true, hT2, g43_0]
    refine hM _ _ ?_
    clear hM M
    exact pops_done (hJ21 _ (wk_same (wk_any ((wk_any ((wk_any ((wk_any ((wk_any ((wk_any ((wk_any ((wk_any (Wk.refl _ _))))))))))))))))))
   ·skip
    intro g43_0 J21 hJ21
    simp only [List.take_succ_cons, List.take_zero]
    simp only [anyAt_cons, anyAt_nil] at hJ21
    refine pops_off (b := true) rfl rfl (by simp only [upd_at, Nat.reduceEqDiff, if_true, if_false, hT2, g43_0]) (by decide) ?_
    refine pops_off (b := true) rfl rfl (by simp only [upd_at, Nat.reduceEqDiff, if_true, if_false, hT2, g43_0]) (by decide) ?_
    refine pops_off (b := true) rfl rfl (by simp only [upd_at, Nat.reduceEqDiff, if_true, if_false, hT2, g43_0]) (by decide) ?_
    refine pops_off (b := true) rfl rfl (by simp only [upd_at, Nat.reduceEqDiff, if_true, if_false, hT2, g43_0]) (by decide) ?_
    refine pops_off0 rfl rfl (by simp only [upd_at, Nat.reduceEqDiff, if_true, if_false, hT2, g43_0]) ?_
    refine pops_off0 rfl rfl (by simp only [upd_at, Nat.reduceEqDiff, if_true, if_false, hT2, g43_0]) ?_
    refine pops_off0 rfl rfl (by simp only [upd_at, Nat.reduceEqDiff, if_true, if_false, hT2, g43_0]) ?_
    refine pops_off (b := true) rfl rfl (by simp only [upd_at, Nat.reduceEqDiff, if_true, if_false, hT2, g43_0]) (by decide) ?_
    refine pops_to rfl fun M hM => ?_
    simp only [pop, St.eval, constSlot, upd_at, Nat.reduceEqDiff, if_true, if_false, popIf, true_implies, false_implies, Bool.true_eq_false, Bool.false_eq_true, reduceCtorEq, true_and, and_true, hT2, g43_0]
    refine hM _ _ ?_
    clear hM M
    exact pops_done (hJ21 _ (wk_same (wk_any ((wk_any ((wk_any ((wk_any ((wk_any ((wk_any ((wk_any ((wk_any (Wk.refl _ _))))))))))))))))))
   simp only [List.drop_succ_cons, List.drop_zero, anyAt_cons, anyAt_nil]
   refine pops_mv (.inl rfl) rfl (by simp only [St.eval, upd_at, Nat.reduceEqDiff, if_true, if_false, hT2] <;> rfl) ?_
   apply pops_or 11 53 64 [54, 55, 56, 57, 58, 59, 60, 61, 62, 63] (by simp only [upd_at, Nat.reduceEqDiff, if_true, if_false, hT2] <;> rfl)
   ·skip
    intro g53_0 J23 hJ23
    simp only [List.take_succ_cons, List.take_zero]
    simp only [anyAt_cons, anyAt_nil] at hJ23
    refine pops_mvg (.inl rfl) rfl rfl (by simp only [upd_at, Nat.reduceEqDiff, if_true, if_false, hT2, g53_0]) (by simp only [St.eval, upd_at, Nat.reduceEqDiff, if_true, if_false, hT2, g53_0] <;> rfl) ?_
    refine pops_mvg (.inl rfl) rfl rfl (by simp only [upd_at, Nat.reduceEqDiff, if_true, if_false, hT2, g53_0]) (by simp only [St.eval, upd_at, Nat.reduceEqDiff, if_true, if_false, hT2, g53_0] <;> rfl) ?_
    apply pops_and 8 55 63 [56, 57, 58, 59, 60, 61, 62] (by simp only [upd_at, Nat.reduceEqDiff, if_true, if_false, hT2, g53_0] <;> rfl)
    ·skip
     intro g55_1 J24 hJ24
     simp only [List.take_succ_cons, List.take_zero]
     simp only [anyAt_cons, anyAt_nil] at hJ24
     refine pops_mvg (.inl rfl) rfl rfl (by simp only [upd_at, Nat.reduceEqDiff, if_true, if_false, hT2, g53_0, g55_1]) (by simp only [St.eval, upd_at, Nat.reduceEqDiff, if_true, if_false, hT2, g53_0, g55_1] <;> rfl) ?_
     refine pops_do rfl rfl (by simp only [upd_at, Nat.reduceEqDiff, if_true, if_false, hT2, g53_0, g55_1]) fun M hM => ?_
     simp only [pop, St.eval, constSlot, upd_at, Nat.reduceEqDiff, if_true, if_false, popBin, binK, intK, strK, eqK, Tryd.underlying9, isPtr, eq_self, true_and, and_true, str_list, str_size, str_app, str_cut, str_get, hT2, g53_0, g55_1]
     refine hM _ _ ?_
     clear hM M
     refine pops_mvg (.inl rfl) rfl rfl (by simp only [upd_at, Nat.reduceEqDiff, if_true, if_false, hT2, g53_0, g55_1]) (by simp only [St.eval, upd_at, Nat.reduceEqDiff, if_true, if_false, hT2, g53_0, g55_1] <;> rfl) ?_
     apply pops_or 4 58 62 [59, 60, 61] (by simp only [upd_at, Nat.reduceEqDiff, if_true, if_false, hT2, g53_0, g55_1] <;> rfl)
     ·skip
      intro g58_2 J25 hJ25
      simp only [List.take_succ_cons, List.take_zero]
      simp only [anyAt_cons, anyAt_nil] at hJ25
      refine pops_mvg (.inl rfl) rfl rfl (by simp only [upd_at, Nat.reduceEqDiff, if_true, if_false, hT2, g53_0, g55_1, g58_2]) (by simp only [St.eval, upd_at, Nat.reduceEqDiff, if_true, if_false, hT2, g53_0, g55_1, g58_2] <;> rfl) ?_
      refine pops_do rfl rfl (by simp only [upd_at, Nat.reduceEqDiff, if_true, if_false, hT2, g53_0, g55_1, g58_2]) fun M hM => ?_
      simp only [pop, St.eval, constSlot, upd_at, Nat.reduceEqDiff, if_true, if_false, popCall, List.toList_toArray, List.map_cons, List.map_nil, svs, List.mapM_cons, List.mapM_nil, Option.bind_eq_bind, Option.bind_some, Option.pure_def, List.append_nil, List.cons_append, List.nil_append, str_size, hT2, g53_0, g55_1, g58_2]
      refine PFun.use (trim_fun W0 (T.dropWhile not46).tail (by omega)) fun h4 s4 => hM _ _ ?_
      replace s4 := Same.trans (Same.refl _) s4
      clear hM M
      refine pops_do rfl rfl (by simp only [upd_at, Nat.reduceEqDiff, if_true, if_false, hT2, g53_0, g55_1, g58_2]) fun M hM => ?_
      simp only [pop, St.eval, constSlot, upd_at, Nat.reduceEqDiff, if_true, if_false, popBin, binK, intK, strK, eqK, Tryd.underlying9, isPtr, eq_self, true_and, and_true, str_list, str_size, str_app, str_cut, str_get, hT2, g53_0, g55_1, g58_2]
      refine hM _ _ ?_
      clear hM M
      refine pops_do rfl rfl (by simp only [upd_at, Nat.reduceEqDiff, if_true, if_false, hT2, g53_0, g55_1, g58_2]) fun M hM => ?_
      simp only [pop, St.eval, constSlot, upd_at, Nat.reduceEqDiff, if_true, if_false, popIf, true_implies, false_implies, Bool.true_eq_false, Bool.false_eq_true, reduceCtorEq, true_and, and_true, hT2, g53_0, g55_1, g58_2]
      refine hM _ _ ?_
      clear hM M
      exact pops_done (hJ25 _ _ s4 (wk_same (wk_any ((wk_any ((wk_any (Wk.refl _ _))))))))
     ·skip
      intro g58_2 J25 hJ25
      simp only [List.take_succ_cons, List.take_zero]
      simp only [anyAt_cons, anyAt_nil] at hJ25
      refine pops_off (b := true) rfl rfl (by simp only [upd_at, Nat.reduceEqDiff, if_true, if_false, hT2, g53_0, g55_1, g58_2]) (by decide) ?_
      refine pops_off (b := true) rfl rfl (by simp only [upd_at, Nat.reduceEqDiff, if_true, if_false, hT2, g53_0, g55_1, g58_2]) (by decide) ?_
      refine pops_off (b := true) rfl rfl (by simp only [upd_at, Nat.reduceEqDiff, if_true, if_false, hT2, g53_0, g55_1, g58_2]) (by decide) ?_
      refine pops_do rfl rfl (by simp only [upd_at, Nat.reduceEqDiff, if_true, if_false, hT2, g53_0, g55_1, g58_2]) fun M hM => ?_
      simp only [pop, St.eval, constSlot, upd_at, Nat.reduceEqDiff, if_true, if_false, popIf, true_implies, false_implies, Bool.true_eq_false, Bool.false_eq_true, reduceCtorEq, true_and, and_true, hT2, g53_0, g55_1, g58_2]
      refine hM _ _ ?_
      clear hM M
      exact pops_done (hJ25 _ _ (Same.refl _) (wk_same (wk_any ((wk_any ((wk_any (Wk.refl _ _))))))))
     simp only [List.drop_succ_cons, List.drop_zero, anyAt_cons, anyAt_nil]
     intro hj25 sj25
     refine pops_do rfl rfl (by simp only [upd_at, Nat.reduceEqDiff, if_true, if_false, hT2, g53_0, g55_1]) fun M hM => ?_
     simp only [pop, St.eval, constSlot, upd_at, Nat.reduceEqDiff, if_true, if_false, popIf, true_implies, false_implies, Bool.true_eq_false, Bool.false_eq_true, reduceCtorEq, true_and, and_true, hT2, g53_0, g55_1]
     refine hM _ _ ?_
     clear hM M
     exact pops_done (hJ24 _ _ sj25 (wk_same (wk_any ((wk_any ((wk_any ((wk_any ((wk_any ((wk_any ((wk_any (Wk.refl _ _))))))))))))))))
    ·skip
     intro g55_1 J24 hJ24
     simp only [List.take_succ_cons, List.take_zero]
     simp only [anyAt_cons, anyAt_nil] at hJ24
     refine pops_off (b := false) rfl rfl (by simp only [upd_at, Nat.reduceEqDiff, if_true, if_false, hT2, g53_0, g55_1]) (by decide) ?_
     refine pops_off (b := false) rfl rfl (by simp only [upd_at, Nat.reduceEqDiff, if_true, if_false, hT2, g53_0, g55_1]) (by decide) ?_
     refine pops_off (b := false) rfl rfl (by simp only [upd_at, Nat.reduceEqDiff, if_true, if_false, hT2, g53_0, g55_1]) (by decide) ?_
     refine pops_off0 rfl rfl (by simp only [upd_at, Nat.reduceEqDiff, if_true, if_false, hT2, g53_0, g55_1]) ?_
     refine pops_off0 rfl rfl (by simp only [upd_at, Nat.reduceEqDiff, if_true, if_false, hT2, g53_0, g55_1]) ?_
     refine pops_off0 rfl rfl (by simp only [upd_at, Nat.reduceEqDiff, if_true, if_false, hT2, g53_0, g55_1]) ?_
     refine pops_off (b := false) rfl rfl (by simp only [upd_at, Nat.reduceEqDiff, if_true, if_false, hT2, g53_0, g55_1]) (by decide) ?_
     refine pops_do rfl rfl (by simp only [upd_at, Nat.reduceEqDiff, if_true, if_false, hT2, g53_0, g55_1]) fun M hM => ?_
     simp only [pop, St.eval, constSlot, upd_at, Nat.reduceEqDiff, if_true, if_false, popIf, true_implies, false_implies, Bool.true_eq_false, Bool.false_eq_true, reduceCtorEq, true_and, and_true, hT2, g53_0, g55_1]
     refine hM _ _ ?_
     clear hM M
     exact pops_done (hJ24 _ _ (Same.refl _) (wk_same (wk_any ((wk_any ((wk_any ((wk_any ((wk_any ((wk_any ((wk_any (Wk.refl _ _))))))))))))))))
    simp only [List.drop_succ_cons, List.drop_zero, anyAt_cons, anyAt_nil]
    intro hj24 sj24
    refine pops_to rfl fun M hM => ?_
    simp only [pop, St.eval, constSlot, upd_at, Nat.reduceEqDiff, if_true, if_false, popIf, true_implies, false_implies, Bool.true_eq_false, Bool.false_eq_true, reduceCtorEq, true_and, and_true, hT2, g53_0]
    refine hM _ _ ?_
    clear hM M
    exact pops_done (hJ23 _ _ sj24 (wk_same (wk_any ((wk_any ((wk_any ((wk_any ((wk_any ((wk_any ((wk_any ((wk_any ((wk_any ((wk_any (Wk.refl _ _))))))))))))))))))))))
   ·skip
    intro g53_0 J23 hJ23
    simp only [List.take_succ_cons, List.take_zero]
    simp only [anyAt_cons, anyAt_nil] at hJ23
    refine pops_off (b := true) rfl rfl (by simp only [upd_at, Nat.reduceEqDiff, if_true, if_false, hT2, g53_0]) (by decide) ?_
    refine pops_off (b := true) rfl rfl (by simp only [upd_at, Nat.reduceEqDiff, if_true, if_false, hT2, g53_0]) (by decide) ?_
    refine pops_off0 rfl rfl (by simp only [upd_at, Nat.reduceEqDiff, if_true, if_false, hT2, g53_0]) ?_
    refine pops_off0 rfl rfl (by simp only [upd_at, Nat.reduceEqDiff, if_true, if_false, hT2, g53_0]) ?_
    refine pops_off0 rfl rfl (by simp only [upd_at, Nat.reduceEqDiff, if_true, if_false, hT2, g53_0]) ?_
    refine pops_off0 rfl rfl (by simp only [upd_at, Nat.reduceEqDiff, if_true, if_false, hT2, g53_0]) ?_
    refine pops_off0 rfl rfl (by simp only [upd_at, Nat.reduceEqDiff, if_true, if_false, hT2, g53_0]) ?_
    refine pops_off0 rfl rfl (by simp only [upd_at, Nat.reduceEqDiff, if_true, if_false, hT2, g53_0]) ?_
    refine pops_off0 rfl rfl (by simp only [upd_at, Nat.reduceEqDiff, if_true, if_false, hT2, g53_0]) ?_
    refine pops_off (b := true) rfl rfl (by simp only [upd_at, Nat.reduceEqDiff, if_true, if_false, hT2, g53_0]) (by decide) ?_
    refine pops_to rfl fun M hM => ?_
    simp only [pop, St.eval, constSlot, upd_at, Nat.reduceEqDiff, if_true, if_false, popIf, true_implies, false_implies, Bool.true_eq_false, Bool.false_eq_true, reduceCtorEq, true_and, and_true, hT2, g53_0]
    refine hM _ _ ?_
    clear hM M
    exact pops_done (hJ23 _ _ (Same.refl _) (wk_same (wk_any ((wk_any ((wk_any ((wk_any ((wk_any ((wk_any ((wk_any ((wk_any ((wk_any ((wk_any (Wk.refl _ _))))))))))))))))))))))
   simp only [List.drop_succ_cons, List.drop_zero, anyAt_cons, anyAt_nil]
   intro hj23 sj23
   replace sj23 := Same.trans sj20 sj23
   refine pops_done (hR19 _ ?_)
   clear hR19 R19
   try simp only [thenK, scopeK]
   refine hN18 _ ?_
   clear hN18 N18
   refine pwp_cond (by simp only [St.eval, upd_at, Nat.reduceEqDiff, if_true, if_false, hT2] <;> rfl) (fun c64 => ?_) (fun c64 => ?_)
   ·skip
    rw [bad_prog] at c64
    have hend : sizeR s = (0, 9) := by rw [hend0, sizeT, if_pos c64]
    refine pwp_then fun N26 hN26 => ?_
    refine pwp_reg fun R27 hR27 => ?_
    refine pops_mv (.inr rfl) rfl (by simp only [St.eval, constSlot] <;> rfl) ?_
    refine pops_mv (.inr rfl) rfl (by simp only [St.eval, constSlot] <;> rfl) ?_
    refine pops_done (hR27 _ ?_)
    clear hR27 R27
    try simp only [thenK, scopeK]
    refine hN26 _ ?_
    clear hN26 N26
    refine pwp_ret ?_
    simp only [thenK, blockK, scopeK, bodyK]
    clear hN17 N17
    refine ⟨_, rfl, endFun sj23 ?_⟩
    try simp only [upd_at, Nat.reduceEqDiff, if_true, if_false, hT2]
    all_goals
     first | rw [hend] | rw [show sizeR T = sizeR s by rw [hT2], hend]
   ·skip
    rw [bad_prog] at c64
    obtain ⟨hwne, hbw, hbp⟩ := badR_not c64
    have hend1 : sizeR s = coreR (T.takeWhile not46) (T.dropWhile not46).tail (1024 ^ u) := by rw [hend0, sizeT, if_neg (by rw [c64]; decide)]
    have hq78 : IntKind.u64.wrap (Int.tdiv 4611686018427387904 (((1024 ^ u) : Nat) : Int)) = ((4611686018427387904 / (1024 ^ u) : Nat) : Int) := quo_u64 4611686018427387904 (1024 ^ u) (by decide)
    have hfv := fracV_le (u := (1024 ^ u)) hbp
    refine pwp_skip ?_
    try simp only [thenK, scopeK]
    refine hN17 _ ?_
    clear hN17 N17
    refine pwp_then fun N28 hN28 => ?_
    refine pwp_reg fun R29 hR29 => ?_
    refine pops_mv (.inl rfl) rfl (by simp only [St.eval, upd_at, Nat.reduceEqDiff, if_true, if_false, hT2] <;> rfl) ?_
    refine pops_to rfl fun M hM => ?_
    simp only [pop, St.eval, constSlot, upd_at, Nat.reduceEqDiff, if_true, if_false, popCall, List.toList_toArray, List.map_cons, List.map_nil, svs, List.mapM_cons, List.mapM_nil, Option.bind_eq_bind, Option.bind_some, Option.pure_def, List.append_nil, List.cons_append, List.nil_append, str_size, hT2]
    refine PFun.use (pub_fun W0 hE (T.takeWhile not46) hbw hwne (by omega)) fun h5 s5 => hM _ _ ?_
    replace s5 := Same.trans sj23 s5
    clear hM M
    refine pops_mv (.inl rfl) rfl (by simp only [St.eval, upd_at, Nat.reduceEqDiff, if_true, if_false, hT2] <;> rfl) ?_
    refine pops_to rfl fun M hM => ?_
    simp only [pop, St.eval, constSlot, upd_at, Nat.reduceEqDiff, if_true, if_false, List.getElem?_toArray, List.getElem?_cons_zero, List.getElem?_cons_succ, hT2]
    refine hM _ _ ?_
    clear hM M
    refine pops_to rfl fun M hM => ?_
    simp only [pop, St.eval, constSlot, upd_at, Nat.reduceEqDiff, if_true, if_false, List.getElem?_toArray, List.getElem?_cons_zero, List.getElem?_cons_succ, hT2]
    refine hM _ _ ?_
    clear hM M
    refine pops_mv (.inr rfl) rfl (by simp only [St.eval, upd_at, Nat.reduceEqDiff, if_true, if_false, hT2] <;> rfl) ?_
    refine pops_mv (.inr rfl) rfl (by simp only [St.eval, upd_at, Nat.reduceEqDiff, if_true, if_false, hT2] <;> rfl) ?_
    refine pops_done (hR29 _ ?_)
    clear hR29 R29
    try simp only [thenK, scopeK]
    refine hN28 _ ?_
    clear hN28 N28
    refine pwp_then fun N30 hN30 => ?_
    refine pwp_reg fun R31 hR31 => ?_
    refine pops_mv (.inl rfl) rfl (by simp only [St.eval, upd_at, Nat.reduceEqDiff, if_true, if_false, hT2] <;> rfl) ?_
    refine pops_to rfl fun M hM => ?_
    simp only [pop, St.eval, constSlot, upd_at, Nat.reduceEqDiff, if_true, if_false, popBin, binK, intK, strK, eqK, eq_self, true_and, and_true, hT2]
    refine hM _ _ ?_
    clear hM M
    refine pops_to rfl fun M hM => ?_
    simp only [pop, St.eval, constSlot, upd_at, Nat.reduceEqDiff, if_true, if_false, popBin, binK, intK, strK, eqK, eq_self, true_and, and_true, hT2, hshl]
    refine ⟨hge, hM _ _ ?_⟩
    clear hM M
    refine pops_mv (.inr rfl) rfl (by simp only [St.eval, upd_at, Nat.reduceEqDiff, if_true, if_false, hT2] <;> rfl) ?_
    refine pops_done (hR31 _ ?_)
    clear hR31 R31
    try simp only [thenK, scopeK]
    refine hN30 _ ?_
    clear hN30 N30
    refine pwp_then fun N32 hN32 => ?_
    refine pwp_then fun N33 hN33 => ?_
    refine pwp_reg fun R34 hR34 => ?_
    refine pops_mv (.inl rfl) rfl (by simp only [St.eval, upd_at, Nat.reduceEqDiff, if_true, if_false, hT2] <;> rfl) ?_
    refine pops_to rfl fun M hM => ?_
    simp only [pop, St.eval, constSlot, upd_at, Nat.reduceEqDiff, if_true, if_false, eq_self, true_and, and_true, hT2]
    refine nil_neq Tryd.underlying77 (rfl : puX (T.takeWhile not46) = _) (.inl rfl) (hM _ _ ?_)
    clear hM M
    refine pops_mv (.inl rfl) rfl (by simp only [St.eval, upd_at, Nat.reduceEqDiff, if_true, if_false, hT2] <;> rfl) ?_
    apply pops_or0 5 75 80 [76, 77, 78, 79] (by simp only [upd_at, Nat.reduceEqDiff, if_true, if_false, hT2] <;> rfl)
    ·skip
     intro g75_0 J35 hJ35
     simp only [List.take_succ_cons, List.take_zero]
     simp only [anyAt_cons, anyAt_nil] at hJ35
     refine pops_mvg (.inl rfl) rfl rfl (by simp only [upd_at, Nat.reduceEqDiff, if_true, if_false, hT2, g75_0]) (by simp only [St.eval, upd_at, Nat.reduceEqDiff, if_true, if_false, hT2, g75_0] <;> rfl) ?_
     refine pops_mvg (.inl rfl) rfl rfl (by simp only [upd_at, Nat.reduceEqDiff, if_true, if_false, hT2, g75_0]) (by simp only [St.eval, upd_at, Nat.reduceEqDiff, if_true, if_false, hT2, g75_0] <;> rfl) ?_
     refine pops_do rfl rfl (by simp only [upd_at, Nat.reduceEqDiff, if_true, if_false, hT2, g75_0]) fun M hM => ?_
     simp only [pop, St.eval, constSlot, upd_at, Nat.reduceEqDiff, if_true, if_false, popBin, binK, intK, strK, eqK, eq_self, true_and, and_true, hT2, g75_0, hq78]
     refine ⟨by have := hpu.1; omega, hM _ _ ?_⟩
     clear hM M
     refine pops_do rfl rfl (by simp only [upd_at, Nat.reduceEqDiff, if_true, if_false, hT2, g75_0]) fun M hM => ?_
     simp only [pop, St.eval, constSlot, upd_at, Nat.reduceEqDiff, if_true, if_false, popBin, binK, intK, strK, eqK, eq_self, true_and, and_true, hT2, g75_0]
     refine hM _ _ ?_
     clear hM M
     refine pops_to rfl fun M hM => ?_
     simp only [pop, St.eval, constSlot, upd_at, Nat.reduceEqDiff, if_true, if_false, popIf, true_implies, false_implies, Bool.true_eq_false, Bool.false_eq_true, reduceCtorEq, true_and, and_true, hT2, g75_0]
     refine hM _ _ ?_
     clear hM M
     exact pops_done (hJ35 _ (wk_same (wk_any ((wk_any ((wk_any ((wk_any (Wk.refl _ _))))))))))
    ·skip
     intro g75_0 J35 hJ35
     simp only [List.take_succ_cons, List.take_zero]
     simp only [anyAt_cons, anyAt_nil] at hJ35
     refine pops_off (b := true) rfl rfl (by simp only [upd_at, Nat.reduceEqDiff, if_true, if_false, hT2, g75_0]) (by decide) ?_
     refine pops_off (b := true) rfl rfl (by simp only [upd_at, Nat.reduceEqDiff, if_true, if_false, hT2, g75_0]) (by decide) ?_
     refine pops_off (b := true) rfl rfl (by simp only [upd_at, Nat.reduceEqDiff, if_true, if_false, hT2, g75_0]) (by decide) ?_
     refine pops_off (b := true) rfl rfl (by simp only [upd_at, Nat.reduceEqDiff, if_true, if_false, hT2, g75_0]) (by decide) ?_
     refine pops_to rfl fun M hM => ?_
     simp only [pop, St.eval, constSlot, upd_at, Nat.reduceEqDiff, if_true, if_false, popIf, true_implies, false_implies, Bool.true_eq_false, Bool.false_eq_true, reduceCtorEq, true_and, and_true, hT2, g75_0]
     refine hM _ _ ?_
     clear hM M
     exact pops_done (hJ35 _ (wk_same (wk_any ((wk_any ((wk_any ((wk_any (Wk.refl _ _))))))))))
    simp only [List.drop_succ_cons, List.drop_zero, anyAt_cons, anyAt_nil]
    refine pops_done (hR34 _ ?_)
    clear hR34 R34
    try simp only [thenK, scopeK]
    refine hN33 _ ?_
    clear hN33 N33
    refine pwp_cond (by simp only [St.eval, upd_at, Nat.reduceEqDiff, if_true, if_false, hT2] <;> rfl) (fun c80 => ?_) (fun c80 => ?_)
    ·skip
     have h80 : (puB (T.takeWhile not46) || decide (MOST / (1024 ^ u) < puV (T.takeWhile not46))) = true := by rw [← c80]; congr 1; exact decide_eq_decide.2 (by show 4611686018427387904 / (1024 ^ u) < _ ↔ _; omega)
     have hend : sizeR s = (0, 7) := by rw [hend1, coreR, if_pos h80]
     refine pwp_then fun N36 hN36 => ?_
     refine pwp_reg fun R37 hR37 => ?_
     refine pops_mv (.inr rfl) rfl (by simp only [St.eval, constSlot] <;> rfl) ?_
     refine pops_mv (.inr rfl) rfl (by simp only [St.eval, constSlot] <;> rfl) ?_
     refine pops_done (hR37 _ ?_)
     clear hR37 R37
     try simp only [thenK, scopeK]
     refine hN36 _ ?_
     clear hN36 N36
     refine pwp_ret ?_
     simp only [thenK, blockK, scopeK, bodyK]
     clear hN32 N32
     refine ⟨_, rfl, endFun s5 ?_⟩
     try simp only [upd_at, Nat.reduceEqDiff, if_true, if_false, hT2]
     all_goals
      first | rw [hend] | rw [show sizeR T = sizeR s by rw [hT2], hend]
    ·skip
     have h80 : (puB (T.takeWhile not46) || decide (MOST / (1024 ^ u) < puV (T.takeWhile not46))) = false := by rw [← c80]; congr 1; exact decide_eq_decide.2 (by show 4611686018427387904 / (1024 ^ u) < _ ↔ _; omega)
     have hend2 : sizeR s = (if MOST - fracV (1024 ^ u) (T.dropWhile not46).tail < puV (T.takeWhile not46) * (1024 ^ u) then ((0 : Int), (7 : Int)) else (((puV (T.takeWhile not46) * (1024 ^ u) + fracV (1024 ^ u) (T.dropWhile not46).tail : Nat) : Int), 0)) := by rw [hend1, coreR, if_neg (by rw [h80]; decide)]
     have hle80 : ¬ 4611686018427387904 / (1024 ^ u) < puV (T.takeWhile not46) := by simp only [Bool.or_eq_false_iff, decide_eq_false_iff_not] at h80; exact h80.2
     have hx80 := times_le hle80
     have hw83 : IntKind.u64.wrap (((puV (T.takeWhile not46) : Nat) : Int) * (((1024 ^ u) : Nat) : Int)) = ((puV (T.takeWhile not46) * (1024 ^ u) : Nat) : Int) := by rw [← Int.natCast_mul, wrap_u64 (by omega) (by have : puV (T.takeWhile not46) * (1024 ^ u) ≤ 4611686018427387904 := hx80; omega)]
     have hw89 : IntKind.u64.wrap (4611686018427387904 - ((fracV (1024 ^ u) (T.dropWhile not46).tail : Nat) : Int)) = ((4611686018427387904 - fracV (1024 ^ u) (T.dropWhile not46).tail : Nat) : Int) := by rw [wrap_u64 (by omega) (by omega)]; omega
     refine pwp_skip ?_
     try simp only [thenK, scopeK]
     refine hN32 _ ?_
     clear hN32 N32
     refine pwp_then fun N38 hN38 => ?_
     refine pwp_reg fun R39 hR39 => ?_
     refine pops_mv (.inl rfl) rfl (by simp only [St.eval, upd_at, Nat.reduceEqDiff, if_true, if_false, hT2] <;> rfl) ?_
     refine pops_mv (.inl rfl) rfl (by simp only [St.eval, upd_at, Nat.reduceEqDiff, if_true, if_false, hT2] <;> rfl) ?_
     refine pops_to rfl fun M hM => ?_
     simp only [pop, St.eval, constSlot, upd_at, Nat.reduceEqDiff, if_true, if_false, popBin, binK, intK, strK, eqK, eq_self, true_and, and_true, hT2, hw83]
     refine hM _ _ ?_
     clear hM M
     refine pops_mv (.inr rfl) rfl (by simp only [St.eval, upd_at, Nat.reduceEqDiff, if_true, if_false, hT2] <;> rfl) ?_
     refine pops_done (hR39 _ ?_)
     clear hR39 R39
     try simp only [thenK, scopeK]
     refine hN38 _ ?_
     clear hN38 N38
     refine pwp_then fun N40 hN40 => ?_
     refine pwp_then fun N41 hN41 => ?_
     refine pwp_reg fun R42 hR42 => ?_
     refine pops_mv (.inl rfl) rfl (by simp only [St.eval, upd_at, Nat.reduceEqDiff, if_true, if_false, hT2] <;> rfl) ?_
     refine pops_mv (.inl rfl) rfl (by simp only [St.eval, upd_at, Nat.reduceEqDiff, if_true, if_false, hT2] <;> rfl) ?_
     refine pops_to rfl fun M hM => ?_
     simp only [pop, St.eval, constSlot, upd_at, Nat.reduceEqDiff, if_true, if_false, popCall, List.toList_toArray, List.map_cons, List.map_nil, svs, List.mapM_cons, List.mapM_nil, Option.bind_eq_bind, Option.bind_some, Option.pure_def, List.append_nil, List.cons_append, List.nil_append, str_size, hT2]
     refine PFun.use (fraction_fun W0 (T.dropWhile not46).tail (1024 ^ u) hbp (by omega) (by omega)) fun h6 s6 => hM _ _ ?_
     replace s6 := Same.trans s5 s6
     clear hM M
     refine pops_mv (.inr rfl) rfl (by simp only [St.eval, upd_at, Nat.reduceEqDiff, if_true, if_false, hT2] <;> rfl) ?_
     refine pops_done (hR42 _ ?_)
     clear hR42 R42
     try simp only [thenK, scopeK]
     refine hN41 _ ?_
     clear hN41 N41
     refine pwp_then fun N43 hN43 => ?_
     refine pwp_reg fun R44 hR44 => ?_
     refine pops_mv (.inl rfl) rfl (by simp only [St.eval, upd_at, Nat.reduceEqDiff, if_true, if_false, hT2] <;> rfl) ?_
     refine pops_mv (.inl rfl) rfl (by simp only [St.eval, upd_at, Nat.reduceEqDiff, if_true, if_false, hT2] <;> rfl) ?_
     refine pops_to rfl fun M hM => ?_
     simp only [pop, St.eval, constSlot, upd_at, Nat.reduceEqDiff, if_true, if_false, popBin, binK, intK, strK, eqK, eq_self, true_and, and_true, hT2, hw89]
     refine hM _ _ ?_
     clear hM M
     refine pops_to rfl fun M hM => ?_
     simp only [pop, St.eval, constSlot, upd_at, Nat.reduceEqDiff, if_true, if_false, popBin, binK, intK, strK, eqK, eq_self, true_and, and_true, hT2]
     refine hM _ _ ?_
     clear hM M
     refine pops_done (hR44 _ ?_)
     clear hR44 R44
     try simp only [thenK, scopeK]
     refine hN43 _ ?_
     clear hN43 N43
     refine pwp_cond (by simp only [St.eval, upd_at, Nat.reduceEqDiff, if_true, if_false, hT2] <;> rfl) (fun c90 => ?_) (fun c90 => ?_)
     ·skip
      have h90 : MOST - fracV (1024 ^ u) (T.dropWhile not46).tail < puV (T.takeWhile not46) * (1024 ^ u) := by have := of_decide_eq_true c90; show 4611686018427387904 - _ < _; omega
      have hend : sizeR s = (0, 7) := by rw [hend2, if_pos h90]
      refine pwp_then fun N45 hN45 => ?_
      refine pwp_reg fun R46 hR46 => ?_
      refine pops_mv (.inr rfl) rfl (by simp only [St.eval, constSlot] <;> rfl) ?_
      refine pops_mv (.inr rfl) rfl (by simp only [St.eval, constSlot] <;> rfl) ?_
      refine pops_done (hR46 _ ?_)
      clear hR46 R46
      try simp only [thenK, scopeK]
      refine hN45 _ ?_
      clear hN45 N45
      refine pwp_ret ?_
      simp only [thenK, blockK, scopeK, bodyK]
      clear hN40 N40
      refine ⟨_, rfl, endFun s6 ?_⟩
      try simp only [upd_at, Nat.reduceEqDiff, if_true, if_false, hT2]
      all_goals
       first | rw [hend] | rw [show sizeR T = sizeR s by rw [hT2], hend]
     ·skip
      have h90 : ¬ MOST - fracV (1024 ^ u) (T.dropWhile not46).tail < puV (T.takeWhile not46) * (1024 ^ u) := by have := of_decide_eq_false c90; show ¬ 4611686018427387904 - _ < _; omega
      have hend : sizeR s = (((puV (T.takeWhile not46) * (1024 ^ u) + fracV (1024 ^ u) (T.dropWhile not46).tail : Nat) : Int), 0) := by rw [hend2, if_neg h90]
      have h91 : puV (T.takeWhile not46) * (1024 ^ u) + fracV (1024 ^ u) (T.dropWhile not46).tail ≤ 4611686018427387904 := by have h92 : ¬ 4611686018427387904 - fracV (1024 ^ u) (T.dropWhile not46).tail < puV (T.takeWhile not46) * (1024 ^ u) := h90; omega
      have hw93 : IntKind.u64.wrap (((puV (T.takeWhile not46) * (1024 ^ u) : Nat) : Int) + ((fracV (1024 ^ u) (T.dropWhile not46).tail : Nat) : Int)) = ((puV (T.takeWhile not46) * (1024 ^ u) + fracV (1024 ^ u) (T.dropWhile not46).tail : Nat) : Int) := by rw [wrap_u64 (by omega) (by omega)]; omega
      have hw95 : IntKind.i64.wrap ((puV (T.takeWhile not46) * (1024 ^ u) + fracV (1024 ^ u) (T.dropWhile not46).tail : Nat) : Int) = ((puV (T.takeWhile not46) * (1024 ^ u) + fracV (1024 ^ u) (T.dropWhile not46).tail : Nat) : Int) := wrap_i64 (by omega) (by omega)
      refine pwp_reg fun R47 hR47 => ?_
      refine pops_mv (.inl rfl) rfl (by simp only [St.eval, upd_at, Nat.reduceEqDiff, if_true, if_false, hT2] <;> rfl) ?_
      refine pops_mv (.inl rfl) rfl (by simp only [St.eval, upd_at, Nat.reduceEqDiff, if_true, if_false, hT2] <;> rfl) ?_
      refine pops_to rfl fun M hM => ?_
      simp only [pop, St.eval, constSlot, upd_at, Nat.reduceEqDiff, if_true, if_false, popBin, binK, intK, strK, eqK, eq_self, true_and, and_true, hT2, hw93]
      refine hM _ _ ?_
      clear hM M
      refine pops_mv (.inr rfl) rfl (by simp only [St.eval, upd_at, Nat.reduceEqDiff, if_true, if_false, hT2] <;> rfl) ?_
      refine pops_done (hR47 _ ?_)
      clear hR47 R47
      try simp only [thenK, scopeK]
      refine hN40 _ ?_
      clear hN40 N40
      refine pwp_then fun N48 hN48 => ?_
      refine pwp_reg fun R49 hR49 => ?_
      refine pops_mv (.inl rfl) rfl (by simp only [St.eval, upd_at, Nat.reduceEqDiff, if_true, if_false, hT2] <;> rfl) ?_
      refine pops_to rfl fun M hM => ?_
      simp only [pop, St.eval, constSlot, upd_at, Nat.reduceEqDiff, if_true, if_false, popConvert, Tryd.underlying73, Tryd.underlying3, eq_self, true_and, and_true, str_list, str_size, str_app, str_cut, str_get, hT2, hw95]
      refine hM _ _ ?_
      clear hM M
      refine pops_mv (.inr rfl) rfl (by simp only [St.eval, upd_at, Nat.reduceEqDiff, if_true, if_false, hT2] <;> rfl) ?_
      refine pops_mv (.inr rfl) rfl (by simp only [St.eval, constSlot] <;> rfl) ?_
      refine pops_done (hR49 _ ?_)
      clear hR49 R49
      try simp only [thenK, scopeK]
      refine hN48 _ ?_
      clear hN48 N48
      refine pwp_ret ?_
      simp only [thenK, blockK, scopeK, bodyK]
      refine ⟨_, rfl, endFun s6 ?_⟩
      try simp only [upd_at, Nat.reduceEqDiff, if_true, if_false, hT2]
      all_goals
       first | rw [hend] | rw [show sizeR T = sizeR s by rw [hT2], hend]
  ·skip
   rw [ix_suf] at c24
   have h24 := of_decide_eq_false c24
   have hstr : stripR s = (0, s) := by unfold stripR; rw [hlast]; exact if_pos (by omega)
   obtain ⟨u, hu⟩ : ∃ u : Nat, u = (stripR s).1 := ⟨_, rfl⟩
   obtain ⟨T, hT⟩ : ∃ T : List UInt8, T = (stripR s).2 := ⟨_, rfl⟩
   have hu4 : u ≤ 4 := by rw [hu]; exact strip_le s
   have hTl : T.length ≤ s.length := by rw [hT]; exact strip_len s
   have hend0 : sizeR s = sizeT u T := by rw [sizeR, hu, hT]
   have hpu := pow_u hu4
   have htw := tw46_len T
   have hT2 : s = T := by rw [hT, hstr]
   have hu2 : u = 0 := by rw [hu, hstr]
   obtain ⟨hge, hshl⟩ := shl_u 0 (by omega)
   rw [show ((1024 ^ (0 : Int).toNat : Nat) : Int) = ((1024 ^ u : Nat) : Int) by rw [hu2]; rfl] at hshl
   refine pwp_skip ?_
   try simp only [thenK, scopeK]
   refine hN5 _ ?_
   clear hN5 N5
   refine pwp_then fun N50 hN50 => ?_
   refine pwp_reg fun R51 hR51 => ?_
   refine pops_mv (.inl rfl) rfl (by simp only [St.eval, upd_at, Nat.reduceEqDiff, if_true, if_false, hT2] <;> rfl) ?_
   refine pops_to rfl fun M hM => ?_
   simp only [pop, St.eval, constSlot, upd_at, Nat.reduceEqDiff, if_true, if_false, popCall, List.toList_toArray, List.map_cons, List.map_nil, svs, List.mapM_cons, List.mapM_nil, Option.bind_eq_bind, Option.bind_some, Option.pure_def, List.append_nil, List.cons_append, List.nil_append, str_size, hT2]
   refine PFun.use (cut_fun W0 hm T (by omega)) fun h7 s7 => hM _ _ ?_
   replace s7 := Same.trans s1 s7
   clear hM M
   refine pops_mv (.inl rfl) rfl (by simp only [St.eval, upd_at, Nat.reduceEqDiff, if_true, if_false, hT2] <;> rfl) ?_
   refine pops_to rfl fun M hM => ?_
   simp only [pop, St.eval, constSlot, upd_at, Nat.reduceEqDiff, if_true, if_false, List.getElem?_toArray, List.getElem?_cons_zero, List.getElem?_cons_succ, hT2]
   refine hM _ _ ?_
   clear hM M
   refine pops_to rfl fun M hM => ?_
   simp only [pop, St.eval, constSlot, upd_at, Nat.reduceEqDiff, if_true, if_false, List.getElem?_toArray, List.getElem?_cons_zero, List.getElem?_cons_succ, hT2]
   refine hM _ _ ?_
   clear hM M
   refine pops_to rfl fun M hM => ?_
   simp only [pop, St.eval, constSlot, upd_at, Nat.reduceEqDiff, if_true, if_false, List.getElem?_toArray, List.getElem?_cons_zero, List.getElem?_cons_succ, hT2]
   refine hM _ _ ?_
   clear hM M
   refine pops_mv (.inr rfl) rfl (by simp only [St.eval, upd_at, Nat.reduceEqDiff, if_true, if_false, hT2] <;> rfl) ?_
   refine pops_mv (.inr rfl) rfl (by simp only [St.eval, upd_at, Nat.reduceEqDiff, if_true, if_false, hT2] <;> rfl) ?_
   refine pops_mv (.inr rfl) rfl (by simp only [St.eval, upd_at, Nat.reduceEqDiff, if_true, if_false, hT2] <;> rfl) ?_
   refine pops_done (hR51 _ ?_)
   clear hR51 R51
   try simp only [thenK, scopeK]
   refine hN50 _ ?_
   clear hN50 N50
   refine pwp_then fun N52 hN52 => ?_
   refine pwp_then fun N53 hN53 => ?_
   refine pwp_reg fun R54 hR54 => ?_
   refine pops_mv (.inl rfl) rfl (by simp only [St.eval, upd_at, Nat.reduceEqDiff, if_true, if_false, hT2] <;> rfl) ?_
   refine pops_to rfl fun M hM => ?_
   simp only [pop, St.eval, constSlot, upd_at, Nat.reduceEqDiff, if_true, if_false, popBin, binK, intK, strK, eqK, Tryd.underlying9, isPtr, eq_self, true_and, and_true, str_list, str_size, str_app, str_cut, str_get, hT2]
   refine hM _ _ ?_
   clear hM M
   refine pops_mv (.inl rfl) rfl (by simp only [St.eval, upd_at, Nat.reduceEqDiff, if_true, if_false, hT2] <;> rfl) ?_
   apply pops_or 4 38 42 [39, 40, 41] (by simp only [upd_at, Nat.reduceEqDiff, if_true, if_false, hT2] <;> rfl)
   ·skip
    intro g38_0 J55 hJ55
    simp only [List.take_succ_cons, List.take_zero]
    simp only [anyAt_cons, anyAt_nil] at hJ55
    refine pops_mvg (.inl rfl) rfl rfl (by simp only [upd_at, Nat.reduceEqDiff, if_true, if_false, hT2, g38_0]) (by simp only [St.eval, upd_at, Nat.reduceEqDiff, if_true, if_false, hT2, g38_0] <;> rfl) ?_
    refine pops_do rfl rfl (by simp only [upd_at, Nat.reduceEqDiff, if_true, if_false, hT2, g38_0]) fun M hM => ?_
    simp only [pop, St.eval, constSlot, upd_at, Nat.reduceEqDiff, if_true, if_false, popCall, List.toList_toArray, List.map_cons, List.map_nil, svs, List.mapM_cons, List.mapM_nil, Option.bind_eq_bind, Option.bind_some, Option.pure_def, List.append_nil, List.cons_append, List.nil_append, str_size, hT2, g38_0]
    refine PFun.use (trim_fun W0 (T.takeWhile not46) (by omega)) fun h8 s8 => hM _ _ ?_
    replace s8 := Same.trans (Same.refl _) s8
    clear hM M
    refine pops_do rfl rfl (by simp only [upd_at, Nat.reduceEqDiff, if_true, if_false, hT2, g38_0]) fun M hM => ?_
    simp only [pop, St.eval, constSlot, upd_at, Nat.reduceEqDiff, if_true, if_false, popBin, binK, intK, strK, eqK, Tryd.underlying9, isPtr, eq_self, true_and, and_true, str_list, str_size, str_app, str_cut, str_get, hT2, g38_0]
    refine hM _ _ ?_
    clear hM M
    refine pops_to rfl fun M hM => ?_
    simp only [pop, St.eval, constSlot, upd_at, Nat.reduceEqDiff, if_true, if_false, popIf, true_implies, false_implies, Bool.true_eq_false, Bool.false_eq_true, reduceCtorEq, true_and, and_true, hT2, g38_0]
    refine hM _ _ ?_
    clear hM M
    exact pops_done (hJ55 _ _ s8 (wk_same (wk_any ((wk_any ((wk_any (Wk.refl _ _))))))))
   ·skip
    intro g38_0 J55 hJ55
    simp only [List.take_succ_cons, List.take_zero]
    simp only [anyAt_cons, anyAt_nil] at hJ55
    refine pops_off (b := true) rfl rfl (by simp only [upd_at, Nat.reduceEqDiff, if_true, if_false, hT2, g38_0]) (by decide) ?_
    refine pops_off (b := true) rfl rfl (by simp only [upd_at, Nat.reduceEqDiff, if_true, if_false, hT2, g38_0]) (by decide) ?_
    refine pops_off (b := true) rfl rfl (by simp only [upd_at, Nat.reduceEqDiff, if_true, if_false, hT2, g38_0]) (by decide) ?_
    refine pops_to rfl fun M hM => ?_
    simp only [pop, St.eval, constSlot, upd_at, Nat.reduceEqDiff, if_true, if_false, popIf, true_implies, false_implies, Bool.true_eq_false, Bool.false_eq_true, reduceCtorEq, true_and, and_true, hT2, g38_0]
    refine hM _ _ ?_
    clear hM M
    exact pops_done (hJ55 _ _ (Same.refl _) (wk_same (wk_any ((wk_any ((wk_any (Wk.refl _ _))))))))
   simp only [List.drop_succ_cons, List.drop_zero, anyAt_cons, anyAt_nil]
   intro hj55 sj55
   replace sj55 := Same.trans s7 sj55
   refine pops_mv (.inl rfl) rfl (by simp only [St.eval, upd_at, Nat.reduceEqDiff, if_true, if_false, hT2] <;> rfl) ?_
   apply pops_or0 9 43 52 [44, 45, 46, 47, 48, 49, 50, 51] (by simp only [upd_at, Nat.reduceEqDiff, if_true, if_false, hT2] <;> rfl)
   ·skip
    intro g43_0 J56 hJ56
    simp only [List.take_succ_cons, List.take_zero]
    simp only [anyAt_cons, anyAt_nil] at hJ56
    refine pops_mvg (.inl rfl) rfl rfl (by simp only [upd_at, Nat.reduceEqDiff, if_true, if_false, hT2, g43_0]) (by simp only [St.eval, upd_at, Nat.reduceEqDiff, if_true, if_false, hT2, g43_0] <;> rfl) ?_
    refine pops_do rfl rfl (by simp only [upd_at, Nat.reduceEqDiff, if_true, if_false, hT2, g43_0]) fun M hM => ?_
    simp only [pop, St.eval, constSlot, upd_at, Nat.reduceEqDiff, if_true, if_false, popCall, List.toList_toArray, List.map_cons, List.map_nil, popBuiltin, popLen, lenOfSlot, List.length_map, Tryd.underlying9, eq_self, true_and, and_true, str_list, str_size, str_app, str_cut, str_get, hT2, g43_0]
    refine hM _ _ ?_
    clear hM M
    refine pops_do rfl rfl (by simp only [upd_at, Nat.reduceEqDiff, if_true, if_false, hT2, g43_0]) fun M hM => ?_
    simp only [pop, St.eval, constSlot, upd_at, Nat.reduceEqDiff, if_true, if_false, popBin, binK, intK, strK, eqK, eq_self, true_and, and_true, hT2, g43_0]
    refine hM _ _ ?_
    clear hM M
    refine pops_mvg (.inl rfl) rfl rfl (by simp only [upd_at, Nat.reduceEqDiff, if_true, if_false, hT2, g43_0]) (by simp only [St.eval, upd_at, Nat.reduceEqDiff, if_true, if_false, hT2, g43_0] <;> rfl) ?_
    apply pops_and0 4 47 51 [48, 49, 50] (by simp only [upd_at, Nat.reduceEqDiff, if_true, if_false, hT2, g43_0] <;> rfl)
    ·skip
     intro g47_1 J57 hJ57
     simp only [List.take_succ_cons, List.take_zero]
     simp only [anyAt_cons, anyAt_nil] at hJ57
     have hx49 := getD_some (s := (T.takeWhile not46)) (i := 0) (by have := of_decide_eq_true g47_1; omega)
     refine pops_mvg (.inl rfl) rfl rfl (by simp only [upd_at, Nat.reduceEqDiff, if_true, if_false, hT2, g43_0, g47_1]) (by simp only [St.eval, upd_at, Nat.reduceEqDiff, if_true, if_false, hT2, g43_0, g47_1] <;> rfl) ?_
     refine pops_do rfl rfl (by simp only [upd_at, Nat.reduceEqDiff, if_true, if_false, hT2, g43_0, g47_1]) fun M hM => ?_
     simp only [pop, St.eval, constSlot, upd_at, Nat.reduceEqDiff, if_true, if_false, popIndex, partK, Tryd.underlying9, eq_self, true_and, and_true, str_list, str_size, str_app, str_cut, str_get, hT2, g43_0, g47_1, hx49, Int.toNat_zero]
     refine ⟨by decide, hM _ _ ?_⟩
     clear hM M
     refine pops_do rfl rfl (by simp only [upd_at, Nat.reduceEqDiff, if_true, if_false, hT2, g43_0, g47_1]) fun M hM => ?_
     simp only [pop, St.eval, constSlot, upd_at, Nat.reduceEqDiff, if_true, if_false, popBin, binK, intK, strK, eqK, Tryd.underlying5, isPtr, eq_self, true_and, and_true, hT2, g43_0, g47_1]
     refine hM _ _ ?_
     clear hM M
     refine pops_do rfl rfl (by simp only [upd_at, Nat.reduceEqDiff, if_true, if_false, hT2, g43_0, g47_1]) fun M hM => ?_
     simp only [pop, St.eval, constSlot, upd_at, Nat.reduceEqDiff, if_true, if_false, popIf, true_implies, false_implies, Bool.true_eq_false, Bool.false_eq_true, reduceCtorEq, true_and, and_true, hT2, g43_0, g47_1]
     refine hM _ _ ?_
     clear hM M
     exact pops_done (hJ57 _ (wk_same (wk_any ((wk_any ((wk_any (Wk.refl _ _))))))))
    ·skip
     intro g47_1 J57 hJ57
     simp only [List.take_succ_cons, List.take_zero]
     simp only [anyAt_cons, anyAt_nil] at hJ57
     refine pops_off (b := false) rfl rfl (by simp only [upd_at, Nat.reduceEqDiff, if_true, if_false, hT2, g43_0, g47_1]) (by decide) ?_
     refine pops_off (b := false) rfl rfl (by simp only [upd_at, Nat.reduceEqDiff, if_true, if_false, hT2, g43_0, g47_1]) (by decide) ?_
     refine pops_off (b := false) rfl rfl (by simp only [upd_at, Nat.reduceEqDiff, if_true, if_false, hT2, g43_0, g47_1]) (by decide) ?_
     refine pops_do rfl rfl (by simp only [upd_at, Nat.reduceEqDiff, if_true, if_false, hT2, g43_0, g47_1]) fun M hM => ?_
     simp only [pop, St.eval, constSlot, upd_at, Nat.reduceEqDiff, if_true, if_false, popIf, true_implies, false_implies, Bool.true_eq_false, Bool.false_eq_true, reduceCtorEq, true_and, and_true, hT2, g43_0, g47_1]
     refine hM _ _ ?_
     clear hM M
     exact pops_done (hJ57 _ (wk_same (wk_any ((wk_any ((wk_any (Wk.refl _ _))))))))
    simp only [List.drop_succ_cons, List.drop_zero, anyAt_cons, anyAt_nil]
    refine pops_to rfl fun M hM => ?_
    simp only [pop, St.eval, constSlot, upd_at, Nat.reduceEqDiff, if_true, if_false, popIf, true_implies, false_implies, Bool.true_eq_false, Bool.false_eq_true, reduceCtorEq, true_and, and_true, hT2, g43_0]
    refine hM _ _ ?_
    clear hM M
    exact pops_done (hJ56 _ (wk_same (wk_any ((wk_any ((wk_any ((wk_any ((wk_any ((wk_any ((wk_any ((wk_any (Wk.refl _ _))))))))))))))))))
   ·skip
    intro g43_0 J56 hJ56
    simp only [List.take_succ_cons, List.take_zero]
    simp only [anyAt_cons, anyAt_nil] at hJ56
    refine pops_off (b := true) rfl rfl (by simp only [upd_at, Nat.reduceEqDiff, if_true, if_false, hT2, g43_0]) (by decide) ?_
    refine pops_off (b := true) rfl rfl (by simp only [upd_at, Nat.reduceEqDiff, if_true, if_false, hT2, g43_0]) (by decide) ?_
    refine pops_off (b := true) rfl rfl (by simp only [upd_at, Nat.reduceEqDiff, if_true, if_false, hT2, g43_0]) (by decide) ?_
    refine pops_off (b := true) rfl rfl (by simp only [upd_at, Nat.reduceEqDiff, if_true, if_false, hT2, g43_0]) (by decide) ?_
    refine pops_off0 rfl rfl (by simp only [upd_at, Nat.reduceEqDiff, if_true, if_false, hT2, g43_0]) ?_
    refine pops_off0 rfl rfl (by simp only [upd_at, Nat.reduceEqDiff, if_true, if_false, hT2, g43_0]) ?_
    refine pops_off0 rfl rfl (by simp only [upd_at, Nat.reduceEqDiff, if_true, if_false, hT2, g43_0]) ?_
    refine pops_off (b := true) rfl rfl (by simp only [upd_at, Nat.reduceEqDiff, if_true, if_false, hT2, g43_0]) (by decide) ?_
    refine pops_to rfl fun M hM => ?_
    simp only [pop, St.eval, constSlot, upd_at, Nat.reduceEqDiff, if_true, if_false, popIf, true_implies, false_implies, Bool.true_eq_false, Bool.false_eq_true, reduceCtorEq, true_and, and_true, hT2, g43_0]
    refine hM _ _ ?_
    clear hM M
    exact pops_done (hJ56 _ (wk_same (wk_any ((wk_any ((wk_any ((wk_any ((wk_any ((wk_any ((wk_any ((wk_any (Wk.refl _ _))))))))))))))))))
   simp only [List.drop_succ_cons, List.drop_zero, anyAt_cons, anyAt_nil]
   refine pops_mv (.inl rfl) rfl (by simp only [St.eval, upd_at, Nat.reduceEqDiff, if_true, if_false, hT2] <;> rfl) ?_
   apply pops_or 11 53 64 [54, 55, 56, 57, 58, 59, 60, 61, 62, 63] (by simp only [upd_at, Nat.reduceEqDiff, if_true, if_false, hT2] <;> rfl)
   ·skip
    intro g53_0 J58 hJ58
    simp only [List.take_succ_cons, List.take_zero]
    simp only [anyAt_cons, anyAt_nil] at hJ58
    refine pops_mvg (.inl rfl) rfl rfl (by simp only [upd_at, Nat.reduceEqDiff, if_true, if_false, hT2, g53_0]) (by simp only [St.eval, upd_at, Nat.reduceEqDiff, if_true, if_false, hT2, g53_0] <;> rfl) ?_
    refine pops_mvg (.inl rfl) rfl rfl (by simp only [upd_at, Nat.reduceEqDiff, if_true, if_false, hT2, g53_0]) (by simp only [St.eval, upd_at, Nat.reduceEqDiff, if_true, if_false, hT2, g53_0] <;> rfl) ?_
    apply pops_and 8 55 63 [56, 57, 58, 59, 60, 61, 62] (by simp only [upd_at, Nat.reduceEqDiff, if_true, if_false, hT2, g53_0] <;> rfl)
    ·skip
     intro g55_1 J59 hJ59
     simp only [List.take_succ_cons, List.take_zero]
     simp only [anyAt_cons, anyAt_nil] at hJ59
     refine pops_mvg (.inl rfl) rfl rfl (by simp only [upd_at, Nat.reduceEqDiff, if_true, if_false, hT2, g53_0, g55_1]) (by simp only [St.eval, upd_at, Nat.reduceEqDiff, if_true, if_false, hT2, g53_0, g55_1] <;> rfl) ?_
     refine pops_do rfl rfl (by simp only [upd_at, Nat.reduceEqDiff, if_true, if_false, hT2, g53_0, g55_1]) fun M hM => ?_
     simp only [pop, St.eval, constSlot, upd_at, Nat.reduceEqDiff, if_true, if_false, popBin, binK, intK, strK, eqK, Tryd.underlying9, isPtr, eq_self, true_and, and_true, str_list, str_size, str_app, str_cut, str_get, hT2, g53_0, g55_1]
     refine hM _ _ ?_
     clear hM M
     refine pops_mvg (.inl rfl) rfl rfl (by simp only [upd_at, Nat.reduceEqDiff, if_true, if_false, hT2, g53_0, g55_1]) (by simp only [St.eval, upd_at, Nat.reduceEqDiff, if_true, if_false, hT2, g53_0, g55_1] <;> rfl) ?_
     apply pops_or 4 58 62 [59, 60, 61] (by simp only [upd_at, Nat.reduceEqDiff, if_true, if_false, hT2, g53_0, g55_1] <;> rfl)
     ·skip
      intro g58_2 J60 hJ60
      simp only [List.take_succ_cons, List.take_zero]
      simp only [anyAt_cons, anyAt_nil] at hJ60
      refine pops_mvg (.inl rfl) rfl rfl (by simp only [upd_at, Nat.reduceEqDiff, if_true, if_false, hT2, g53_0, g55_1, g58_2]) (by simp only [St.eval, upd_at, Nat.reduceEqDiff, if_true, if_false, hT2, g53_0, g55_1, g58_2] <;> rfl) ?_
      refine pops_do rfl rfl (by simp only [upd_at, Nat.reduceEqDiff, if_true, if_false, hT2, g53_0, g55_1, g58_2]) fun M hM => ?_
      simp only [pop, St.eval, constSlot, upd_at, Nat.reduceEqDiff, if_true, if_false, popCall, List.toList_toArray, List.map_cons, List.map_nil, svs, List.mapM_cons, List.mapM_nil, Option.bind_eq_bind, Option.bind_some, Option.pure_def, List.append_nil, List.cons_append, List.nil_append, str_size, hT2, g53_0, g55_1, g58_2]
      refine PFun.use (trim_fun W0 (T.dropWhile not46).tail (by omega)) fun h9 s9 => hM _ _ ?_
      replace s9 := Same.trans (Same.refl _) s9
      clear hM M
      refine pops_do rfl rfl (by simp only [upd_at, Nat.reduceEqDiff, if_true, if_false, hT2, g53_0, g55_1, g58_2]) fun M hM => ?_
      simp only [pop, St.eval, constSlot, upd_at, Nat.reduceEqDiff, if_true, if_false, popBin, binK, intK, strK, eqK, Tryd.underlying9, isPtr, eq_self, true_and, and_true, str_list, str_size, str_app, str_cut, str_get, hT2, g53_0, g55_1, g58_2]
      refine hM _ _ ?_
      clear hM M
      refine pops_do rfl rfl (by simp only [upd_at, Nat.reduceEqDiff, if_true, if_false, hT2, g53_0, g55_1, g58_2]) fun M hM => ?_
      simp only [pop, St.eval, constSlot, upd_at, Nat.reduceEqDiff, if_true, if_false, popIf, true_implies, false_implies, Bool.true_eq_false, Bool.false_eq_true, reduceCtorEq, true_and, and_true, hT2, g53_0, g55_1, g58_2]
      refine hM _ _ ?_
      clear hM M
      exact pops_done (hJ60 _ _ s9 (wk_same (wk_any ((wk_any ((wk_any (Wk.refl _ _))))))))
     ·skip
      intro g58_2 J60 hJ60
      simp only [List.take_succ_cons, List.take_zero]
      simp only [anyAt_cons, anyAt_nil] at hJ60
      refine pops_off (b := true) rfl rfl (by simp only [upd_at, Nat.reduceEqDiff, if_true, if_false, hT2, g53_0, g55_1, g58_2]) (by decide) ?_
      refine pops_off (b := true) rfl rfl (by simp only [upd_at, Nat.reduceEqDiff, if_true, if_false, hT2, g53_0, g55_1, g58_2]) (by decide) ?_
      refine pops_off (b := true) rfl rfl (by simp only [upd_at, Nat.reduceEqDiff, if_true, if_false, hT2, g53_0, g55_1, g58_2]) (by decide) ?_
      refine pops_do rfl rfl (by simp only [upd_at, Nat.reduceEqDiff, if_true, if_false, hT2, g53_0, g55_1, g58_2]) fun M hM => ?_
      simp only [pop, St.eval, constSlot, upd_at, Nat.reduceEqDiff, if_true, if_false, popIf, true_implies, false_implies, Bool.true_eq_false, Bool.false_eq_true, reduceCtorEq, true_and, and_true, hT2, g53_0, g55_1, g58_2]
      refine hM _ _ ?_
      clear hM M
      exact pops_done (hJ60 _ _ (Same.refl _) (wk_same (wk_any ((wk_any ((wk_any (Wk.refl _ _))))))))
     simp only [List.drop_succ_cons, List.drop_zero, anyAt_cons, anyAt_nil]
     intro hj60 sj60
     refine pops_do rfl rfl (by simp only [upd_at, Nat.reduceEqDiff, if_true, if_false, hT2, g53_0, g55_1]) fun M hM => ?_
     simp only [pop, St.eval, constSlot, upd_at, Nat.reduceEqDiff, if_true, if_false, popIf, true_implies, false_implies, Bool.true_eq_false, Bool.false_eq_true, reduceCtorEq, true_and, and_true, hT2, g53_0, g55_1]
     refine hM _ _ ?_
     clear hM M
     exact pops_done (hJ59 _ _ sj60 (wk_same (wk_any ((wk_any ((wk_any ((wk_any ((wk_any ((wk_any ((wk_any (Wk.refl _ _))))))))))))))))
    ·skip
     intro g55_1 J59 hJ59
     simp only [List.take_succ_cons, List.take_zero]
     simp only [anyAt_cons, anyAt_nil] at hJ59
     refine pops_off (b := false) rfl rfl (by simp only [upd_at, Nat.reduceEqDiff, if_true, if_false, hT2, g53_0, g55_1]) (by decide) ?_
     refine pops_off (b := false) rfl rfl (by simp only [upd_at, Nat.reduceEqDiff, if_true, if_false, hT2, g53_0, g55_1]) (by decide) ?_
     refine pops_off (b := false) rfl rfl (by simp only [upd_at, Nat.reduceEqDiff, if_true, if_false, hT2, g53_0, g55_1]) (by decide) ?_
     refine pops_off0 rfl rfl (by simp only [upd_at, Nat.reduceEqDiff, if_true, if_false, hT2, g53_0, g55_1]) ?_
     refine pops_off0 rfl rfl (by simp only [upd_at, Nat.reduceEqDiff, if_true, if_false, hT2, g53_0, g55_1]) ?_
     refine pops_off0 rfl rfl (by simp only [upd_at, Nat.reduceEqDiff, if_true, if_false, hT2, g53_0, g55_1]) ?_
     refine pops_off (b := false) rfl rfl (by simp only [upd_at, Nat.reduceEqDiff, if_true, if_false, hT2, g53_0, g55_1]) (by decide) ?_
     refine pops_do rfl rfl (by simp only [upd_at, Nat.reduceEqDiff, if_true, if_false, hT2, g53_0, g55_1]) fun M hM => ?_
     simp only [pop, St.eval, constSlot, upd_at, Nat.reduceEqDiff, if_true, if_false, popIf, true_implies, false_implies, Bool.true_eq_false, Bool.false_eq_true, reduceCtorEq, true_and, and_true, hT2, g53_0, g55_1]
     refine hM _ _ ?_
     clear hM M
     exact pops_done (hJ59 _ _ (Same.refl _) (wk_same (wk_any ((wk_any ((wk_any ((wk_any ((wk_any ((wk_any ((wk_any (Wk.refl _ _))))))))))))))))
    simp only [List.drop_succ_cons, List.drop_zero, anyAt_cons, anyAt_nil]
    intro hj59 sj59
    refine pops_to rfl fun M hM => ?_
    simp only [pop, St.eval, constSlot, upd_at, Nat.reduceEqDiff, if_true, if_false, popIf, true_implies, false_implies, Bool.true_eq_false, Bool.false_eq_true, reduceCtorEq, true_and, and_true, hT2, g53_0]
    refine hM _ _ ?_
    clear hM M
    exact pops_done (hJ58 _ _ sj59 (wk_same (wk_any ((wk_any ((wk_any ((wk_any ((wk_any ((wk_any ((wk_any ((wk_any ((wk_any ((wk_any (Wk.refl _ _))))))))))))))))))))))
   ·skip
    intro g53_0 J58 hJ58
    simp only [List.take_succ_cons, List.take_zero]
    simp only [anyAt_cons, anyAt_nil] at hJ58
    refine pops_off (b := true) rfl rfl (by simp only [upd_at, Nat.reduceEqDiff, if_true, if_false, hT2, g53_0]) (by decide) ?_
    refine pops_off (b := true) rfl rfl (by simp only [upd_at, Nat.reduceEqDiff, if_true, if_false, hT2, g53_0]) (by decide) ?_
    refine pops_off0 rfl rfl (by simp only [upd_at, Nat.reduceEqDiff, if_true, if_false, hT2, g53_0]) ?_
    refine pops_off0 rfl rfl (by simp only [upd_at, Nat.reduceEqDiff, if_true, if_false, hT2, g53_0]) ?_
    refine pops_off0 rfl rfl (by simp only [upd_at, Nat.reduceEqDiff, if_true, if_false, hT2, g53_0]) ?_
    refine pops_off0 rfl rfl (by simp only [upd_at, Nat.reduceEqDiff, if_true, if_false, hT2, g53_0]) ?_
    refine pops_off0 rfl rfl (by simp only [upd_at, Nat.reduceEqDiff, if_true, if_false, hT2, g53_0]) ?_
    refine pops_off0 rfl rfl (by simp only [upd_at, Nat.reduceEqDiff, if_true, if_false, hT2, g53_0]) ?_
    refine pops_off0 rfl rfl (by simp only [upd_at, Nat.reduceEqDiff, if_true, if_false, hT2, g53_0]) ?_
    refine pops_off (b := true) rfl rfl (by simp only [upd_at, Nat.reduceEqDiff, if_true, if_false, hT2, g53_0]) (by decide) ?_
    refine pops_to rfl fun M hM => ?_
    simp only [pop, St.eval, constSlot, upd_at, Nat.reduceEqDiff, if_true, if_false, popIf, true_implies, false_implies, Bool.true_eq_false, Bool.false_eq_true, reduceCtorEq, true_and, and_true, hT2, g53_0]
    refine hM _ _ ?_
    clear hM M
    exact pops_done (hJ58 _ _ (Same.refl _) (wk_same (wk_any ((wk_any ((wk_any ((wk_any ((wk_any ((wk_any ((wk_any ((wk_any ((wk_any ((wk_any (Wk.refl _ _))))))))))))))))))))))
   simp only [List.drop_succ_cons, List.drop_zero, anyAt_cons, anyAt_nil]
   intro hj58 sj58
   replace sj58 := Same.trans sj55 sj58
   refine pops_done (hR54 _ ?_)
   clear hR54 R54
   try simp only [thenK, scopeK]
   refine hN53 _ ?_
   clear hN53 N53
   refine pwp_cond (by simp only [St.eval, upd_at, Nat.reduceEqDiff, if_true, if_false, hT2] <;> rfl) (fun c64 => ?_) (fun c64 => ?_)
   ·skip
    rw [bad_prog] at c64
    have hend : sizeR s = (0, 9) := by rw [hend0, sizeT, if_pos c64]
    refine pwp_then fun N61 hN61 => ?_
    refine pwp_reg fun R62 hR62 => ?_
    refine pops_mv (.inr rfl) rfl (by simp only [St.eval, constSlot] <;> rfl) ?_
    refine pops_mv (.inr rfl) rfl (by simp only [St.eval, constSlot] <;> rfl) ?_
    refine pops_done (hR62 _ ?_)
    clear hR62 R62
    try simp only [thenK, scopeK]
    refine hN61 _ ?_
    clear hN61 N61
    refine pwp_ret ?_
    simp only [thenK, blockK, scopeK, bodyK]
    clear hN52 N52
    refine ⟨_, rfl, endFun sj58 ?_⟩
    try simp only [upd_at, Nat.reduceEqDiff, if_true, if_false, hT2]
    all_goals
     first | rw [hend] | rw [show sizeR T = sizeR s by rw [hT2], hend]
   ·skip
    rw [bad_prog] at c64
    obtain ⟨hwne, hbw, hbp⟩ := badR_not c64
    have hend1 : sizeR s = coreR (T.takeWhile not46) (T.dropWhile not46).tail (1024 ^ u) := by rw [hend0, sizeT, if_neg (by rw [c64]; decide)]
    have hq78 : IntKind.u64.wrap (Int.tdiv 4611686018427387904 (((1024 ^ u) : Nat) : Int)) = ((4611686018427387904 / (1024 ^ u) : Nat) : Int) := quo_u64 4611686018427387904 (1024 ^ u) (by decide)
    have hfv := fracV_le (u := (1024 ^ u)) hbp
    refine pwp_skip ?_
    try simp only [thenK, scopeK]
    refine hN52 _ ?_
    clear hN52 N52
    refine pwp_then fun N63 hN63 => ?_
    refine pwp_reg fun R64 hR64 => ?_
    refine pops_mv (.inl rfl) rfl (by simp only [St.eval, upd_at, Nat.reduceEqDiff, if_true, if_false, hT2] <;> rfl) ?_
    refine pops_to rfl fun M hM => ?_
    simp only [pop, St.eval, constSlot, upd_at, Nat.reduceEqDiff, if_true, if_false, popCall, List.toList_toArray, List.map_cons, List.map_nil, svs, List.mapM_cons, List.mapM_nil, Option.bind_eq_bind, Option.bind_some, Option.pure_def, List.append_nil, List.cons_append, List.nil_append, str_size, hT2]
    refine PFun.use (pub_fun W0 hE (T.takeWhile not46) hbw hwne (by omega)) fun h10 s10 => hM _ _ ?_
    replace s10 := Same.trans sj58 s10
    clear hM M
    refine pops_mv (.inl rfl) rfl (by simp only [St.eval, upd_at, Nat.reduceEqDiff, if_true, if_false, hT2] <;> rfl) ?_
    refine pops_to rfl fun M hM => ?_
    simp only [pop, St.eval, constSlot, upd_at, Nat.reduceEqDiff, if_true, if_false, List.getElem?_toArray, List.getElem?_cons_zero, List.getElem?_cons_succ, hT2]
    refine hM _ _ ?_
    clear hM M
    refine pops_to rfl fun M hM => ?_
    simp only [pop, St.eval, constSlot, upd_at, Nat.reduceEqDiff, if_true, if_false, List.getElem?_toArray, List.getElem?_cons_zero, List.getElem?_cons_succ, hT2]
    refine hM _ _ ?_
    clear hM M
    refine pops_mv (.inr rfl) rfl (by simp only [St.eval, upd_at, Nat.reduceEqDiff, if_true, if_false, hT2] <;> rfl) ?_
    refine pops_mv (.inr rfl) rfl (by simp only [St.eval, upd_at, Nat.reduceEqDiff, if_true, if_false, hT2] <;> rfl) ?_
    refine pops_done (hR64 _ ?_)
    clear hR64 R64
    try simp only [thenK, scopeK]
    refine hN63 _ ?_
    clear hN63 N63
    refine pwp_then fun N65 hN65 => ?_
    refine pwp_reg fun R66 hR66 => ?_
    refine pops_mv (.inl rfl) rfl (by simp only [St.eval, upd_at, Nat.reduceEqDiff, if_true, if_false, hT2] <;> rfl) ?_
    refine pops_to rfl fun M hM => ?_
    simp only [pop, St.eval, constSlot, upd_at, Nat.reduceEqDiff, if_true, if_false, popBin, binK, intK, strK, eqK, eq_self, true_and, and_true, hT2]
    refine hM _ _ ?_
    clear hM M
    refine pops_to rfl fun M hM => ?_
    simp only [pop, St.eval, constSlot, upd_at, Nat.reduceEqDiff, if_true, if_false, popBin, binK, intK, strK, eqK, eq_self, true_and, and_true, hT2, hshl]
    refine ⟨hge, hM _ _ ?_⟩
    clear hM M
    refine pops_mv (.inr rfl) rfl (by simp only [St.eval, upd_at, Nat.reduceEqDiff, if_true, if_false, hT2] <;> rfl) ?_
    refine pops_done (hR66 _ ?_)
    clear hR66 R66
    try simp only [thenK, scopeK]
    refine hN65 _ ?_
    clear hN65 N65
    refine pwp_then fun N67 hN67 => ?_
    refine pwp_then fun N68 hN68 => ?_
    refine pwp_reg fun R69 hR69 => ?_
    refine pops_mv (.inl rfl) rfl (by simp only [St.eval, upd_at, Nat.reduceEqDiff, if_true, if_false, hT2] <;> rfl) ?_
    refine pops_to rfl fun M hM => ?_
    simp only [pop, St.eval, constSlot, upd_at, Nat.reduceEqDiff, if_true, if_false, eq_self, true_and, and_true, hT2]
    refine nil_neq Tryd.underlying77 (rfl : puX (T.takeWhile not46) = _) (.inl rfl) (hM _ _ ?_)
    clear hM M
    refine pops_mv (.inl rfl) rfl (by simp only [St.eval, upd_at, Nat.reduceEqDiff, if_true, if_false, hT2] <;> rfl) ?_
    apply pops_or0 5 75 80 [76, 77, 78, 79] (by simp only [upd_at, Nat.reduceEqDiff, if_true, if_false, hT2] <;> rfl)
    ·skip
     intro g75_0 J70 hJ70
     simp only [List.take_succ_cons, List.take_zero]
     simp only [anyAt_cons, anyAt_nil] at hJ70
     refine pops_mvg (.inl rfl) rfl rfl (by simp only [upd_at, Nat.reduceEqDiff, if_true, if_false, hT2, g75_0]) (by simp only [St.eval, upd_at, Nat.reduceEqDiff, if_true, if_false, hT2, g75_0] <;> rfl) ?_
     refine pops_mvg (.inl rfl) rfl rfl (by simp only [upd_at, Nat.reduceEqDiff, if_true, if_false, hT2, g75_0]) (by simp only [St.eval, upd_at, Nat.reduceEqDiff, if_true, if_false, hT2, g75_0] <;> rfl) ?_
     refine pops_do rfl rfl (by simp only [upd_at, Nat.reduceEqDiff, if_true, if_false, hT2, g75_0]) fun M hM => ?_
     simp only [pop, St.eval, constSlot, upd_at, Nat.reduceEqDiff, if_true, if_false, popBin, binK, intK, strK, eqK, eq_self, true_and, and_true, hT2, g75_0, hq78]
     refine ⟨by have := hpu.1; omega, hM _ _ ?_⟩
     clear hM M
     refine pops_do rfl rfl (by simp only [upd_at, Nat.reduceEqDiff, if_true, if_false, hT2, g75_0]) fun M hM => ?_
     simp only [pop, St.eval, constSlot, upd_at, Nat.reduceEqDiff, if_true, if_false, popBin, binK, intK, strK, eqK, eq_self, true_and, and_true, hT2, g75_0]
     refine hM _ _ ?_
     clear hM M
     refine pops_to rfl fun M hM => ?_
     simp only [pop, St.eval, constSlot, upd_at, Nat.reduceEqDiff, if_true, if_false, popIf, true_implies, false_implies, Bool.true_eq_false, Bool.false_eq_true, reduceCtorEq, true_and, and_true, hT2, g75_0]
     refine hM _ _ ?_
     clear hM M
     exact pops_done (hJ70 _ (wk_same (wk_any ((wk_any ((wk_any ((wk_any (Wk.refl _ _))))))))))
    ·skip
     intro g75_0 J70 hJ70
     simp only [List.take_succ_cons, List.take_zero]
     simp only [anyAt_cons, anyAt_nil] at hJ70
     refine pops_off (b := true) rfl rfl (by simp only [upd_at, Nat.reduceEqDiff, if_true, if_false, hT2, g75_0]) (by decide) ?_
     refine pops_off (b := true) rfl rfl (by simp only [upd_at, Nat.reduceEqDiff, if_true, if_false, hT2, g75_0]) (by decide) ?_
     refine pops_off (b := true) rfl rfl (by simp only [upd_at, Nat.reduceEqDiff, if_true, if_false, hT2, g75_0]) (by decide) ?_
     refine pops_off (b := true) rfl rfl (by simp only [upd_at, Nat.reduceEqDiff, if_true, if_false, hT2, g75_0]) (by decide) ?_
     refine pops_to rfl fun M hM => ?_
     simp only [pop, St.eval, constSlot, upd_at, Nat.reduceEqDiff, if_true, if_false, popIf, true_implies, false_implies, Bool.true_eq_false, Bool.false_eq_true, reduceCtorEq, true_and, and_true, hT2, g75_0]
     refine hM _ _ ?_
     clear hM M
     exact pops_done (hJ70 _ (wk_same (wk_any ((wk_any ((wk_any ((wk_any (Wk.refl _ _))))))))))
    simp only [List.drop_succ_cons, List.drop_zero, anyAt_cons, anyAt_nil]
    refine pops_done (hR69 _ ?_)
    clear hR69 R69
    try simp only [thenK, scopeK]
    refine hN68 _ ?_
    clear hN68 N68
    refine pwp_cond (by simp only [St.eval, upd_at, Nat.reduceEqDiff, if_true, if_false, hT2] <;> rfl) (fun c80 => ?_) (fun c80 => ?_)
    ·skip
     have h80 : (puB (T.takeWhile not46) || decide (MOST / (1024 ^ u) < puV (T.takeWhile not46))) = true := by rw [← c80]; congr 1; exact decide_eq_decide.2 (by show 4611686018427387904 / (1024 ^ u) < _ ↔ _; omega)
     have hend : sizeR s = (0, 7) := by rw [hend1, coreR, if_pos h80]
     refine pwp_then fun N71 hN71 => ?_
     refine pwp_reg fun R72 hR72 => ?_
     refine pops_mv (.inr rfl) rfl (by simp only [St.eval, constSlot] <;> rfl) ?_
     refine pops_mv (.inr rfl) rfl (by simp only [St.eval, constSlot] <;> rfl) ?_
     refine pops_done (hR72 _ ?_)
     clear hR72 R72
     try simp only [thenK, scopeK]
     refine hN71 _ ?_
     clear hN71 N71
     refine pwp_ret ?_
     simp only [thenK, blockK, scopeK, bodyK]
     clear hN67 N67
     refine ⟨_, rfl, endFun s10 ?_⟩
     try simp only [upd_at, Nat.reduceEqDiff, if_true, if_false, hT2]
     all_goals
      first | rw [hend] | rw [show sizeR T = sizeR s by rw [hT2], hend]
    ·skip
     have h80 : (puB (T.takeWhile not46) || decide (MOST / (1024 ^ u) < puV (T.takeWhile not46))) = false := by rw [← c80]; congr 1; exact decide_eq_decide.2 (by show 4611686018427387904 / (1024 ^ u) < _ ↔ _; omega)
     have hend2 : sizeR s = (if MOST - fracV (1024 ^ u) (T.dropWhile not46).tail < puV (T.takeWhile not46) * (1024 ^ u) then ((0 : Int), (7 : Int)) else (((puV (T.takeWhile not46) * (1024 ^ u) + fracV (1024 ^ u) (T.dropWhile not46).tail : Nat) : Int), 0)) := by rw [hend1, coreR, if_neg (by rw [h80]; decide)]
     have hle80 : ¬ 4611686018427387904 / (1024 ^ u) < puV (T.takeWhile not46) := by simp only [Bool.or_eq_false_iff, decide_eq_false_iff_not] at h80; exact h80.2
     have hx80 := times_le hle80
     have hw83 : IntKind.u64.wrap (((puV (T.takeWhile not46) : Nat) : Int) * (((1024 ^ u) : Nat) : Int)) = ((puV (T.takeWhile not46) * (1024 ^ u) : Nat) : Int) := by rw [← Int.natCast_mul, wrap_u64 (by omega) (by have : puV (T.takeWhile not46) * (1024 ^ u) ≤ 4611686018427387904 := hx80; omega)]
     have hw89 : IntKind.u64.wrap (4611686018427387904 - ((fracV (1024 ^ u) (T.dropWhile not46).tail : Nat) : Int)) = ((4611686018427387904 - fracV (1024 ^ u) (T.dropWhile not46).tail : Nat) : Int) := by rw [wrap_u64 (by omega) (by omega)]; omega
     refine pwp_skip ?_
     try simp only [thenK, scopeK]
     refine hN67 _ ?_
     clear hN67 N67
     refine pwp_then fun N73 hN73 => ?_
     refine pwp_reg fun R74 hR74 => ?_
     refine pops_mv (.inl rfl) rfl (by simp only [St.eval, upd_at, Nat.reduceEqDiff, if_true, if_false, hT2] <;> rfl) ?_
     refine pops_mv (.inl rfl) rfl (by simp only [St.eval, upd_at, Nat.reduceEqDiff, if_true, if_false, hT2] <;> rfl) ?_
     refine pops_to rfl fun M hM => ?_
     simp only [pop, St.eval, constSlot, upd_at, Nat.reduceEqDiff, if_true, if_false, popBin, binK, intK, strK, eqK, eq_self, true_and, and_true, hT2, hw83]
     refine hM _ _ ?_
     clear hM M
     refine pops_mv (.inr rfl) rfl (by simp only [St.eval, upd_at, Nat.reduceEqDiff, if_true, if_false, hT2] <;> rfl) ?_
     refine pops_done (hR74 _ ?_)
     clear hR74 R74
     try simp only [thenK, scopeK]
     refine hN73 _ ?_
     clear hN73 N73
     refine pwp_then fun N75 hN75 => ?_
     refine pwp_then fun N76 hN76 => ?_
     refine pwp_reg fun R77 hR77 => ?_
     refine pops_mv (.inl rfl) rfl (by simp only [St.eval, upd_at, Nat.reduceEqDiff, if_true, if_false, hT2] <;> rfl) ?_
     refine pops_mv (.inl rfl) rfl (by simp only [St.eval, upd_at, Nat.reduceEqDiff, if_true, if_false, hT2] <;> rfl) ?_
     refine pops_to rfl fun M hM => ?_
     simp only [pop, St.eval, constSlot, upd_at, Nat.reduceEqDiff, if_true, if_false, popCall, List.toList_toArray, List.map_cons, List.map_nil, svs, List.mapM_cons, List.mapM_nil, Option.bind_eq_bind, Option.bind_some, Option.pure_def, List.append_nil, List.cons_append, List.nil_append, str_size, hT2]
     refine PFun.use (fraction_fun W0 (T.dropWhile not46).tail (1024 ^ u) hbp (by omega) (by omega)) fun h11 s11 => hM _ _ ?_
     replace s11 := Same.trans s10 s11
     clear hM M
     refine pops_mv (.inr rfl) rfl (by simp only [St.eval, upd_at, Nat.reduceEqDiff, if_true, if_false, hT2] <;> rfl) ?_
     refine pops_done (hR77 _ ?_)
     clear hR77 R77
     try simp only [thenK, scopeK]
     refine hN76 _ ?_
     clear hN76 N76
     refine pwp_then fun N78 hN78 => ?_
     refine pwp_reg fun R79 hR79 => ?_
     refine pops_mv (.inl rfl) rfl (by simp only [St.eval, upd_at, Nat.reduceEqDiff, if_true, if_false, hT2] <;> rfl) ?_
     refine pops_mv (.inl rfl) rfl (by simp only [St.eval, upd_at, Nat.reduceEqDiff, if_true, if_false, hT2] <;> rfl) ?_
     refine pops_to rfl fun M hM => ?_
     simp only [pop, St.eval, constSlot, upd_at, Nat.reduceEqDiff, if_true, if_false, popBin, binK, intK, strK, eqK, eq_self, true_and, and_true, hT2, hw89]
     refine hM _ _ ?_
     clear hM M
     refine pops_to rfl fun M hM => ?_
     simp only [pop, St.eval, constSlot, upd_at, Nat.reduceEqDiff, if_true, if_false, popBin, binK, intK, strK, eqK, eq_self, true_and, and_true, hT2]
     refine hM _ _ ?_
     clear hM M
     refine pops_done (hR79 _ ?_)
     clear hR79 R79
     try simp only [thenK, scopeK]
     refine hN78 _ ?_
     clear hN78 N78
     refine pwp_cond (by simp only [St.eval, upd_at, Nat.reduceEqDiff, if_true, if_false, hT2] <;> rfl) (fun c90 => ?_) (fun c90 => ?_)
     ·skip
      have h90 : MOST - fracV (1024 ^ u) (T.dropWhile not46).tail < puV (T.takeWhile not46) * (1024 ^ u) := by have := of_decide_eq_true c90; show 4611686018427387904 - _ < _; omega
      have hend : sizeR s = (0, 7) := by rw [hend2, if_pos h90]
      refine pwp_then fun N80 hN80 => ?_
      refine pwp_reg fun R81 hR81 => ?_
      refine pops_mv (.inr rfl) rfl (by simp only [St.eval, constSlot] <;> rfl) ?_
      refine pops_mv (.inr rfl) rfl (by simp only [St.eval, constSlot] <;> rfl) ?_
      refine pops_done (hR81 _ ?_)
      clear hR81 R81
      try simp only [thenK, scopeK]
      refine hN80 _ ?_
      clear hN80 N80
      refine pwp_ret ?_
      simp only [thenK, blockK, scopeK, bodyK]
      clear hN75 N75
      refine ⟨_, rfl, endFun s11 ?_⟩
      try simp only [upd_at, Nat.reduceEqDiff, if_true, if_false, hT2]
      all_goals
       first | rw [hend] | rw [show sizeR T = sizeR s by rw [hT2], hend]
     ·skip
      have h90 : ¬ MOST - fracV (1024 ^ u) (T.dropWhile not46).tail < puV (T.takeWhile not46) * (1024 ^ u) := by have := of_decide_eq_false c90; show ¬ 4611686018427387904 - _ < _; omega
      have hend : sizeR s = (((puV (T.takeWhile not46) * (1024 ^ u) + fracV (1024 ^ u) (T.dropWhile not46).tail : Nat) : Int), 0) := by rw [hend2, if_neg h90]
      have h91 : puV (T.takeWhile not46) * (1024 ^ u) + fracV (1024 ^ u) (T.dropWhile not46).tail ≤ 4611686018427387904 := by have h92 : ¬ 4611686018427387904 - fracV (1024 ^ u) (T.dropWhile not46).tail < puV (T.takeWhile not46) * (1024 ^ u) := h90; omega
      have hw93 : IntKind.u64.wrap (((puV (T.takeWhile not46) * (1024 ^ u) : Nat) : Int) + ((fracV (1024 ^ u) (T.dropWhile not46).tail : Nat) : Int)) = ((puV (T.takeWhile not46) * (1024 ^ u) + fracV (1024 ^ u) (T.dropWhile not46).tail : Nat) : Int) := by rw [wrap_u64 (by omega) (by omega)]; omega
      have hw95 : IntKind.i64.wrap ((puV (T.takeWhile not46) * (1024 ^ u) + fracV (1024 ^ u) (T.dropWhile not46).tail : Nat) : Int) = ((puV (T.takeWhile not46) * (1024 ^ u) + fracV (1024 ^ u) (T.dropWhile not46).tail : Nat) : Int) := wrap_i64 (by omega) (by omega)
      refine pwp_reg fun R82 hR82 => ?_
      refine pops_mv (.inl rfl) rfl (by simp only [St.eval, upd_at, Nat.reduceEqDiff, if_true, if_false, hT2] <;> rfl) ?_
      refine pops_mv (.inl rfl) rfl (by simp only [St.eval, upd_at, Nat.reduceEqDiff, if_true, if_false, hT2] <;> rfl) ?_
      refine pops_to rfl fun M hM => ?_
      simp only [pop, St.eval, constSlot, upd_at, Nat.reduceEqDiff, if_true, if_false, popBin, binK, intK, strK, eqK, eq_self, true_and, and_true, hT2, hw93]
      refine hM _ _ ?_
      clear hM M
      refine pops_mv (.inr rfl) rfl (by simp only [St.eval, upd_at, Nat.reduceEqDiff, if_true, if_false, hT2] <;> rfl) ?_
      refine pops_done (hR82 _ ?_)
      clear hR82 R82
      try simp only [thenK, scopeK]
      refine hN75 _ ?_
      clear hN75 N75
      refine pwp_then fun N83 hN83 => ?_
      refine pwp_reg fun R84 hR84 => ?_
      refine pops_mv (.inl rfl) rfl (by simp only [St.eval, upd_at, Nat.reduceEqDiff, if_true, if_false, hT2] <;> rfl) ?_
      refine pops_to rfl fun M hM => ?_
      simp only [pop, St.eval, constSlot, upd_at, Nat.reduceEqDiff, if_true, if_false, popConvert, Tryd.underlying73, Tryd.underlying3, eq_self, true_and, and_true, str_list, str_size, str_app, str_cut, str_get, hT2, hw95]
      refine hM _ _ ?_
      clear hM M
      refine pops_mv (.inr rfl) rfl (by simp only [St.eval, upd_at, Nat.reduceEqDiff, if_true, if_false, hT2] <;> rfl) ?_
      refine pops_mv (.inr rfl) rfl (by simp only [St.eval, constSlot] <;> rfl) ?_
      refine pops_done (hR84 _ ?_)
      clear hR84 R84
      try simp only [thenK, scopeK]
      refine hN83 _ ?_
      clear hN83 N83
      refine pwp_ret ?_
      simp only [thenK, blockK, scopeK, bodyK]
      refine ⟨_, rfl, endFun s11 ?_⟩
      try simp only [upd_at, Nat.reduceEqDiff, if_true, if_false, hT2]
      all_goals
       first | rw [hend] | rw [show sizeR T = sizeR s by rw [hT2], hend]
 ·skip
  have h17 := of_decide_eq_false c17
  have hs0 : s = [] := List.eq_nil_of_length_eq_zero (by omega)
  obtain ⟨u, hu⟩ : ∃ u : Nat, u = (stripR s).1 := ⟨_, rfl⟩
  obtain ⟨T, hT⟩ : ∃ T : List UInt8, T = (stripR s).2 := ⟨_, rfl⟩
  have hu4 : u ≤ 4 := by rw [hu]; exact strip_le s
  have hTl : T.length ≤ s.length := by rw [hT]; exact strip_len s
  have hend0 : sizeR s = sizeT u T := by rw [sizeR, hu, hT]
  have hpu := pow_u hu4
  have htw := tw46_len T
  have hT2 : s = T := by rw [hT, hs0]; rfl
  have hu2 : u = 0 := by rw [hu, hs0]; rfl
  obtain ⟨hge, hshl⟩ := shl_u 0 (by omega)
  rw [show ((1024 ^ (0 : Int).toNat : Nat) : Int) = ((1024 ^ u : Nat) : Int) by rw [hu2]; rfl] at hshl
  refine pwp_skip ?_
  try simp only [thenK, scopeK]
  refine hN5 _ ?_
  clear hN5 N5
  refine pwp_then fun N85 hN85 => ?_
  refine pwp_reg fun R86 hR86 => ?_
  refine pops_mv (.inl rfl) rfl (by simp only [St.eval, upd_at, Nat.reduceEqDiff, if_true, if_false, hT2] <;> rfl) ?_
  refine pops_to rfl fun M hM => ?_
  simp only [pop, St.eval, constSlot, upd_at, Nat.reduceEqDiff, if_true, if_false, popCall, List.toList_toArray, List.map_cons, List.map_nil, svs, List.mapM_cons, List.mapM_nil, Option.bind_eq_bind, Option.bind_some, Option.pure_def, List.append_nil, List.cons_append, List.nil_append, str_size, hT2]
  refine PFun.use (cut_fun W0 hm T (by omega)) fun h12 s12 => hM _ _ ?_
  replace s12 := Same.trans (Same.refl _) s12
  clear hM M
  refine pops_mv (.inl rfl) rfl (by simp only [St.eval, upd_at, Nat.reduceEqDiff, if_true, if_false, hT2] <;> rfl) ?_
  refine pops_to rfl fun M hM => ?_
  simp only [pop, St.eval, constSlot, upd_at, Nat.reduceEqDiff, if_true, if_false, List.getElem?_toArray, List.getElem?_cons_zero, List.getElem?_cons_succ, hT2]
  refine hM _ _ ?_
  clear hM M
  refine pops_to rfl fun M hM => ?_
  simp only [pop, St.eval, constSlot, upd_at, Nat.reduceEqDiff, if_true, if_false, List.getElem?_toArray, List.getElem?_cons_zero, List.getElem?_cons_succ, hT2]
  refine hM _ _ ?_
  clear hM M
  refine pops_to rfl fun M hM => ?_
  simp only [pop, St.eval, constSlot, upd_at, Nat.reduceEqDiff, if_true, if_false, List.getElem?_toArray, List.getElem?_cons_zero, List.getElem?_cons_succ, hT2]
  refine hM _ _ ?_
  clear hM M
  refine pops_mv (.inr rfl) rfl (by simp only [St.eval, upd_at, Nat.reduceEqDiff, if_true, if_false, hT2] <;> rfl) ?_
  refine pops_mv (.inr rfl) rfl (by simp only [St.eval, upd_at, Nat.reduceEqDiff, if_true, if_false, hT2] <;> rfl) ?_
  refine pops_mv (.inr rfl) rfl (by simp only [St.eval, upd_at, Nat.reduceEqDiff, if_true, if_false, hT2] <;> rfl) ?_
  refine pops_done (hR86 _ ?_)
  clear hR86 R86
  try simp only [thenK, scopeK]
  refine hN85 _ ?_
  clear hN85 N85
  refine pwp_then fun N87 hN87 => ?_
  refine pwp_then fun N88 hN88 => ?_
  refine pwp_reg fun R89 hR89 => ?_
  refine pops_mv (.inl rfl) rfl (by simp only [St.eval, upd_at, Nat.reduceEqDiff, if_true, if_false, hT2] <;> rfl) ?_
  refine pops_to rfl fun M hM => ?_
  simp only [pop, St.eval, constSlot, upd_at, Nat.reduceEqDiff, if_true, if_false, popBin, binK, intK, strK, eqK, Tryd.underlying9, isPtr, eq_self, true_and, and_true, str_list, str_size, str_app, str_cut, str_get, hT2]
  refine hM _ _ ?_
  clear hM M
  refine pops_mv (.inl rfl) rfl (by simp only [St.eval, upd_at, Nat.reduceEqDiff, if_true, if_false, hT2] <;> rfl) ?_
  apply pops_or 4 38 42 [39, 40, 41] (by simp only [upd_at, Nat.reduceEqDiff, if_true, if_false, hT2] <;> rfl)
  ·skip
   intro g38_0 J90 hJ90
   simp only [List.take_succ_cons, List.take_zero]
   simp only [anyAt_cons, anyAt_nil] at hJ90
   refine pops_mvg (.inl rfl) rfl rfl (by simp only [upd_at, Nat.reduceEqDiff, if_true, if_false, hT2, g38_0]) (by simp only [St.eval, upd_at, Nat.reduceEqDiff, if_true, if_false, hT2, g38_0] <;> rfl) ?_
   refine pops_do rfl rfl (by simp only [upd_at, Nat.reduceEqDiff, if_true, if_false, hT2, g38_0]) fun M hM => ?_
   simp only [pop, St.eval, constSlot, upd_at, Nat.reduceEqDiff, if_true, if_false, popCall, List.toList_toArray, List.map_cons, List.map_nil, svs, List.mapM_cons, List.mapM_nil, Option.bind_eq_bind, Option.bind_some, Option.pure_def, List.append_nil, List.cons_append, List.nil_append, str_size, hT2, g38_0]
   refine PFun.use (trim_fun W0 (T.takeWhile not46) (by omega)) fun h13 s13 => hM _ _ ?_
   replace s13 := Same.trans (Same.refl _) s13
   clear hM M
   refine pops_do rfl rfl (by simp only [upd_at, Nat.reduceEqDiff, if_true, if_false, hT2, g38_0]) fun M hM => ?_
   simp only [pop, St.eval, constSlot, upd_at, Nat.reduceEqDiff, if_true, if_false, popBin, binK, intK, strK, eqK, Tryd.underlying9, isPtr, eq_self, true_and, and_true, str_list, str_size, str_app, str_cut, str_get, hT2, g38_0]
   refine hM _ _ ?_
   clear hM M
   refine pops_to rfl fun M hM => ?_
   simp only [pop, St.eval, constSlot, upd_at, Nat.reduceEqDiff, if_true, if_false, popIf, true_implies, false_implies, Bool.true_eq_false, Bool.false_eq_true, reduceCtorEq, true_and, and_true, hT2, g38_0]
   refine hM _ _ ?_
   clear hM M
   exact pops_done (hJ90 _ _ s13 (wk_same (wk_any ((wk_any ((wk_any (Wk.refl _ _))))))))
  ·skip
   intro g38_0 J90 hJ90
   simp only [List.take_succ_cons, List.take_zero]
   simp only [anyAt_cons, anyAt_nil] at hJ90
   refine pops_off (b := true) rfl rfl (by simp only [upd_at, Nat.reduceEqDiff, if_true, if_false, hT2, g38_0]) (by decide) ?_
   refine pops_off (b := true) rfl rfl (by simp only [upd_at, Nat.reduceEqDiff, if_true, if_false, hT2, g38_0]) (by decide) ?_
   refine pops_off (b := true) rfl rfl (by simp only [upd_at, Nat.reduceEqDiff, if_true, if_false, hT2, g38_0]) (by decide) ?_
   refine pops_to rfl fun M hM => ?_
   simp only [pop, St.eval, constSlot, upd_at, Nat.reduceEqDiff, if_true, if_false, popIf, true_implies, false_implies, Bool.true_eq_false, Bool.false_eq_true, reduceCtorEq, true_and, and_true, hT2, g38_0]
   refine hM _ _ ?_
   clear hM M
   exact pops_done (hJ90 _ _ (Same.refl _) (wk_same (wk_any ((wk_any ((wk_any (Wk.refl _ _))))))))
  simp only [List.drop_succ_cons, List.drop_zero, anyAt_cons, anyAt_nil]
  intro hj90 sj90
  replace sj90 := Same.trans s12 sj90
  refine pops_mv (.inl rfl) rfl (by simp only [St.eval, upd_at, Nat.reduceEqDiff, if_true, if_false, hT2] <;> rfl) ?_
  apply pops_or0 9 43 52 [44, 45, 46, 47, 48, 49, 50, 51] (by simp only [upd_at, Nat.reduceEqDiff, if_true, if_false, hT2] <;> rfl)
  ·skip
   intro g43_0 J91 hJ91
   simp only [List.take_succ_cons, List.take_zero]
   simp only [anyAt_cons, anyAt_nil] at hJ91
   refine pops_mvg (.inl rfl) rfl rfl (by simp only [upd_at, Nat.reduceEqDiff, if_true, if_false, hT2, g43_0]) (by simp only [St.eval, upd_at, Nat.reduceEqDiff, if_true, if_false, hT2, g43_0] <;> rfl) ?_
   refine pops_do rfl rfl (by simp only [upd_at, Nat.reduceEqDiff, if_true, if_false, hT2, g43_0]) fun M hM => ?_
   simp only [pop, St.eval, constSlot, upd_at, Nat.reduceEqDiff, if_true, if_false, popCall, List.toList_toArray, List.map_cons, List.map_nil, popBuiltin, popLen, lenOfSlot, List.length_map, Tryd.underlying9, eq_self, true_and, and_true, str_list, str_size, str_app, str_cut, str_get, hT2, g43_0]
   refine hM _ _ ?_
   clear hM M
   refine pops_do rfl rfl (by simp only [upd_at, Nat.reduceEqDiff, if_true, if_false, hT2, g43_0]) fun M hM => ?_
   simp only [pop, St.eval, constSlot, upd_at, Nat.reduceEqDiff, if_true, if_false, popBin, binK, intK, strK, eqK, eq_self, true_and, and_true, hT2, g43_0]
   refine hM _ _ ?_
   clear hM M
   refine pops_mvg (.inl rfl) rfl rfl (by simp only [upd_at, Nat.reduceEqDiff, if_true, if_false, hT2, g43_0]) (by simp only [St.eval, upd_at, Nat.reduceEqDiff, if_true, if_false, hT2, g43_0] <;> rfl) ?_
   apply pops_and0 4 47 51 [48, 49, 50] (by simp only [upd_at, Nat.reduceEqDiff, if_true, if_false, hT2, g43_0] <;> rfl)
   ·skip
    intro g47_1 J92 hJ92
    simp only [List.take_succ_cons, List.take_zero]
    simp only [anyAt_cons, anyAt_nil] at hJ92
    have hx49 := getD_some (s := (T.takeWhile not46)) (i := 0) (by have := of_decide_eq_true g47_1; omega)
    refine pops_mvg (.inl rfl) rfl rfl (by simp only [upd_at, Nat.reduceEqDiff, if_true, if_false, hT2, g43_0, g47_1]) (by simp only [St.eval, upd_at, Nat.reduceEqDiff, if_true, if_false, hT2, g43_0, g47_1] <;> rfl) ?_
    refine pops_do rfl rfl (by simp only [upd_at, Nat.reduceEqDiff, if_true, if_false, hT2, g43_0, g47_1]) fun M hM => ?_
    simp only [pop, St.eval, constSlot, upd_at, Nat.reduceEqDiff, if_true, if_false, popIndex, partK, Tryd.underlying9, eq_self, true_and, and_true, str_list, str_size, str_app, str_cut, str_get, hT2, g43_0, g47_1, hx49, Int.toNat_zero]
    refine ⟨by decide, hM _ _ ?_⟩
    clear hM M
    refine pops_do rfl rfl (by simp only [upd_at, Nat.reduceEqDiff, if_true, if_false, hT2, g43_0, g47_1]) fun M hM => ?_
    simp only [pop, St.eval, constSlot, upd_at, Nat.reduceEqDiff, if_true, if_false, popBin, binK, intK, strK, eqK, Tryd.underlying5, isPtr, eq_self, true_and, and_true, hT2, g43_0, g47_1]
    refine hM _ _ ?_
    clear hM M
    refine pops_do rfl rfl (by simp only [upd_at, Nat.reduceEqDiff, if_true, if_false, hT2, g43_0, g47_1]) fun M hM => ?_
    simp only [pop, St.eval, constSlot, upd_at, Nat.reduceEqDiff, if_true, if_false, popIf, true_implies, false_implies, Bool.true_eq_false, Bool.false_eq_true, reduceCtorEq, true_and, and_true, hT2, g43_0, g47_1]
    refine hM _ _ ?_
    clear hM M
    exact pops_done (hJ92 _ (wk_same (wk_any ((wk_any ((wk_any (Wk.refl _ _))))))))
   ·skip
    intro g47_1 J92 hJ92
    simp only [List.take_succ_cons, List.take_zero]
    simp only [anyAt_cons, anyAt_nil] at hJ92
    refine pops_off (b := false) rfl rfl (by simp only [upd_at, Nat.reduceEqDiff, if_true, if_false, hT2, g43_0, g47_1]) (by decide) ?_
    refine pops_off (b := false) rfl rfl (by simp only [upd_at, Nat.reduceEqDiff, if_true, if_false, hT2, g43_0, g47_1]) (by decide) ?_
    refine pops_off (b := false) rfl rfl (by simp only [upd_at, Nat.reduceEqDiff, if_true, if_false, hT2, g43_0, g47_1]) (by decide) ?_
    refine pops_do rfl rfl (by simp only [upd_at, Nat.reduceEqDiff, if_true, if_false, hT2, g43_0, g47_1]) fun M hM => ?_
    simp only [pop, St.eval, constSlot, upd_at, Nat.reduceEqDiff, if_true, if_false, popIf, true_implies, false_implies, Bool.true_eq_false, Bool.false_eq_true, reduceCtorEq, true_and, and_true, hT2, g43_0, g47_1]
    refine hM _ _ ?_
    clear hM M
    exact pops_done (hJ92 _ (wk_same (wk_any ((wk_any ((wk_any (Wk.refl _ _))))))))
   simp only [List.drop_succ_cons, List.drop_zero, anyAt_cons, anyAt_nil]
   refine pops_to rfl fun M hM => ?_
   simp only [pop, St.eval, constSlot, upd_at, Nat.reduceEqDiff, if_true, if_false, popIf, true_implies, false_implies, Bool.true_eq_false, Bool.false_eq_true, reduceCtorEq, true_and, and_true, hT2, g43_0]
   refine hM _ _ ?_
   clear hM M
   exact pops_done (hJ91 _ (wk_same (wk_any ((wk_any ((wk_any ((wk_any ((wk_any ((wk_any ((wk_any ((wk_any (Wk.refl _ _))))))))))))))))))
  ·skip
   intro g43_0 J91 hJ91
   simp only [List.take_succ_cons, List.take_zero]
   simp only [anyAt_cons, anyAt_nil] at hJ91
   refine pops_off (b := true) rfl rfl (by simp only [upd_at, Nat.reduceEqDiff, if_true, if_false, hT2, g43_0]) (by decide) ?_
   refine pops_off (b := true) rfl rfl (by simp only [upd_at, Nat.reduceEqDiff, if_true, if_false, hT2, g43_0]) (by decide) ?_
   refine pops_off (b := true) rfl rfl (by simp only [upd_at, Nat.reduceEqDiff, if_true, if_false, hT2, g43_0]) (by decide) ?_
   refine pops_off (b := true) rfl rfl (by simp only [upd_at, Nat.reduceEqDiff, if_true, if_false, hT2, g43_0]) (by decide) ?_
   refine pops_off0 rfl rfl (by simp only [upd_at, Nat.reduceEqDiff, if_true, if_false, hT2, g43_0]) ?_
   refine pops_off0 rfl rfl (by simp only [upd_at, Nat.reduceEqDiff, if_true, if_false, hT2, g43_0]) ?_
   refine pops_off0 rfl rfl (by simp only [upd_at, Nat.reduceEqDiff, if_true, if_false, hT2, g43_0]) ?_
   refine pops_off (b := true) rfl rfl (by simp only [upd_at, Nat.reduceEqDiff, if_true, if_false, hT2, g43_0]) (by decide) ?_
   refine pops_to rfl fun M hM => ?_
   simp only [pop, St.eval, constSlot, upd_at, Nat.reduceEqDiff, if_true, if_false, popIf, true_implies, false_implies, Bool.true_eq_false, Bool.false_eq_true, reduceCtorEq, true_and, and_true, hT2, g43_0]
   refine hM _ _ ?_
   clear hM M
   exact pops_done (hJ91 _ (wk_same (wk_any ((wk_any ((wk_any ((wk_any ((wk_any ((wk_any ((wk_any ((wk_any (Wk.refl _ _))))))))))))))))))
  simp only [List.drop_succ_cons, List.drop_zero, anyAt_cons, anyAt_nil]
  refine pops_mv (.inl rfl) rfl (by simp only [St.eval, upd_at, Nat.reduceEqDiff, if_true, if_false, hT2] <;> rfl) ?_
  apply pops_or 11 53 64 [54, 55, 56, 57, 58, 59, 60, 61, 62, 63] (by simp only [upd_at, Nat.reduceEqDiff, if_true, if_false, hT2] <;> rfl)
  ·skip
   intro g53_0 J93 hJ93
   simp only [List.take_succ_cons, List.take_zero]
   simp only [anyAt_cons, anyAt_nil] at hJ93
   refine pops_mvg (.inl rfl) rfl rfl (by simp only [upd_at, Nat.reduceEqDiff, if_true, if_false, hT2, g53_0]) (by simp only [St.eval, upd_at, Nat.reduceEqDiff, if_true, if_false, hT2, g53_0] <;> rfl) ?_
   refine pops_mvg (.inl rfl) rfl rfl (by simp only [upd_at, Nat.reduceEqDiff, if_true, if_false, hT2, g53_0]) (by simp only [St.eval, upd_at, Nat.reduceEqDiff, if_true, if_false, hT2, g53_0] <;> rfl) ?_
   apply pops_and 8 55 63 [56, 57, 58, 59, 60, 61, 62] (by simp only [upd_at, Nat.reduceEqDiff, if_true, if_false, hT2, g53_0] <;> rfl)
   ·skip
    intro g55_1 J94 hJ94
    simp only [List.take_succ_cons, List.take_zero]
    simp only [anyAt_cons, anyAt_nil] at hJ94
    refine pops_mvg (.inl rfl) rfl rfl (by simp only [upd_at, Nat.reduceEqDiff, if_true, if_false, hT2, g53_0, g55_1]) (by simp only [St.eval, upd_at, Nat.reduceEqDiff, if_true, if_false, hT2, g53_0, g55_1] <;> rfl) ?_
    refine pops_do rfl rfl (by simp only [upd_at, Nat.reduceEqDiff, if_true, if_false, hT2, g53_0, g55_1]) fun M hM => ?_
    simp only [pop, St.eval, constSlot, upd_at, Nat.reduceEqDiff, if_true, if_false, popBin, binK, intK, strK, eqK, Tryd.underlying9, isPtr, eq_self, true_and, and_true, str_list, str_size, str_app, str_cut, str_get, hT2, g53_0, g55_1]
    refine hM _ _ ?_
    clear hM M
    refine pops_mvg (.inl rfl) rfl rfl (by simp only [upd_at, Nat.reduceEqDiff, if_true, if_false, hT2, g53_0, g55_1]) (by simp only [St.eval, upd_at, Nat.reduceEqDiff, if_true, if_false, hT2, g53_0, g55_1] <;> rfl) ?_
    apply pops_or 4 58 62 [59, 60, 61] (by simp only [upd_at, Nat.reduceEqDiff, if_true, if_false, hT2, g53_0, g55_1] <;> rfl)
    ·skip
     intro g58_2 J95 hJ95
     simp only [List.take_succ_cons, List.take_zero]
     simp only [anyAt_cons, anyAt_nil] at hJ95
     refine pops_mvg (.inl rfl) rfl rfl (by simp only [upd_at, Nat.reduceEqDiff, if_true, if_false, hT2, g53_0, g55_1, g58_2]) (by simp only [St.eval, upd_at, Nat.reduceEqDiff, if_true, if_false, hT2, g53_0, g55_1, g58_2] <;> rfl) ?_
     refine pops_do rfl rfl (by simp only [upd_at, Nat.reduceEqDiff, if_true, if_false, hT2, g53_0, g55_1, g58_2]) fun M hM => ?_
     simp only [pop, St.eval, constSlot, upd_at, Nat.reduceEqDiff, if_true, if_false, popCall, List.toList_toArray, List.map_cons, List.map_nil, svs, List.mapM_cons, List.mapM_nil, Option.bind_eq_bind, Option.bind_some, Option.pure_def, List.append_nil, List.cons_append, List.nil_append, str_size, hT2, g53_0, g55_1, g58_2]
     refine PFun.use (trim_fun W0 (T.dropWhile not46).tail (by omega)) fun h14 s14 => hM _ _ ?_
     replace s14 := Same.trans (Same.refl _) s14
     clear hM M
     refine pops_do rfl rfl (by simp only [upd_at, Nat.reduceEqDiff, if_true, if_false, hT2, g53_0, g55_1, g58_2]) fun M hM => ?_
     simp only [pop, St.eval, constSlot, upd_at, Nat.reduceEqDiff, if_true, if_false, popBin, binK, intK, strK, eqK, Tryd.underlying9, isPtr, eq_self, true_and, and_true, str_list, str_size, str_app, str_cut, str_get, hT2, g53_0, g55_1, g58_2]
     refine hM _ _ ?_
     clear hM M
     refine pops_do rfl rfl (by simp only [upd_at, Nat.reduceEqDiff, if_true, if_false, hT2, g53_0, g55_1, g58_2]) fun M hM => ?_
     simp only [pop, St.eval, constSlot, upd_at, Nat.reduceEqDiff, if_true, if_false, popIf, true_implies, false_implies, Bool.true_eq_false, Bool.false_eq_true, reduceCtorEq, true_and, and_true, hT2, g53_0, g55_1, g58_2]
     refine hM _ _ ?_
     clear hM M
     exact pops_done (hJ95 _ _ s14 (wk_same (wk_any ((wk_any ((wk_any (Wk.refl _ _))))))))
    ·skip
     intro g58_2 J95 hJ95
     simp only [List.take_succ_cons, List.take_zero]
     simp only [anyAt_cons, anyAt_nil] at hJ95
     refine pops_off (b := true) rfl rfl (by simp only [upd_at, Nat.reduceEqDiff, if_true, if_false, hT2, g53_0, g55_1, g58_2]) (by decide) ?_
     refine pops_off (b := true) rfl rfl (by simp only [upd_at, Nat.reduceEqDiff, if_true, if_false, hT2, g53_0, g55_1, g58_2]) (by decide) ?_
     refine pops_off (b := true) rfl rfl (by simp only [upd_at, Nat.reduceEqDiff, if_true, if_false, hT2, g53_0, g55_1, g58_2]) (by decide) ?_
     refine pops_do rfl rfl (by simp only [upd_at, Nat.reduceEqDiff, if_true, if_false, hT2, g53_0, g55_1, g58_2]) fun M hM => ?_
     simp only [pop, St.eval, constSlot, upd_at, Nat.reduceEqDiff, if_true, if_false, popIf, true_implies, false_implies, Bool.true_eq_false, Bool.false_eq_true, reduceCtorEq, true_and, and_true, hT2, g53_0, g55_1, g58_2]
     refine hM _ _ ?_
     clear hM M
     exact pops_done (hJ95 _ _ (Same.refl _) (wk_same (wk_any ((wk_any ((wk_any (Wk.refl _ _))))))))
    simp only [List.drop_succ_cons, List.drop_zero, anyAt_cons, anyAt_nil]
    intro hj95 sj95
    refine pops_do rfl rfl (by simp only [upd_at, Nat.reduceEqDiff, if_true, if_false, hT2, g53_0, g55_1]) fun M hM => ?_
    simp only [pop, St.eval, constSlot, upd_at, Nat.reduceEqDiff, if_true, if_false, popIf, true_implies, false_implies, Bool.true_eq_false, Bool.false_eq_true, reduceCtorEq, true_and, and_true, hT2, g53_0, g55_1]
    refine hM _ _ ?_
    clear hM M
    exact pops_done (hJ94 _ _ sj95 (wk_same (wk_any ((wk_any ((wk_any ((wk_any ((wk_any ((wk_any ((wk_any (Wk.refl _ _))))))))))))))))
   ·skip
    intro g55_1 J94 hJ94
    simp only [List.take_succ_cons, List.take_zero]
    simp only [anyAt_cons, anyAt_nil] at hJ94
    refine pops_off (b := false) rfl rfl (by simp only [upd_at, Nat.reduceEqDiff, if_true, if_false, hT2, g53_0, g55_1]) (by decide) ?_
    refine pops_off (b := false) rfl rfl (by simp only [upd_at, Nat.reduceEqDiff, if_true, if_false, hT2, g53_0, g55_1]) (by decide) ?_
    refine pops_off (b := false) rfl rfl (by simp only [upd_at, Nat.reduceEqDiff, if_true, if_false, hT2, g53_0, g55_1]) (by decide) ?_
    refine pops_off0 rfl rfl (by simp only [upd_at, Nat.reduceEqDiff, if_true, if_false, hT2, g53_0, g55_1]) ?_
    refine pops_off0 rfl rfl (by simp only [upd_at, Nat.reduceEqDiff, if_true, if_false, hT2, g53_0, g55_1]) ?_
    refine pops_off0 rfl rfl (by simp only [upd_at, Nat.reduceEqDiff, if_true, if_false, hT2, g53_0, g55_1]) ?_
    refine pops_off (b := false) rfl rfl (by simp only [upd_at, Nat.reduceEqDiff, if_true, if_false, hT2, g53_0, g55_1]) (by decide) ?_
    refine pops_do rfl rfl (by simp only [upd_at, Nat.reduceEqDiff, if_true, if_false, hT2, g53_0, g55_1]) fun M hM => ?_
    simp only [pop, St.eval, constSlot, upd_at, Nat.reduceEqDiff, if_true, if_false, popIf, true_implies, false_implies, Bool.true_eq_false, Bool.false_eq_true, reduceCtorEq, true_and, and_true, hT2, g53_0, g55_1]
    refine hM _ _ ?_
    clear hM M
    exact pops_done (hJ94 _ _ (Same.refl _) (wk_same (wk_any ((wk_any ((wk_any ((wk_any ((wk_any ((wk_any ((wk_any (Wk.refl _ _))))))))))))))))
   simp only [List.drop_succ_cons, List.drop_zero, anyAt_cons, anyAt_nil]
   intro hj94 sj94
   refine pops_to rfl fun M hM => ?_
   simp only [pop, St.eval, constSlot, upd_at, Nat.reduceEqDiff, if_true, if_false, popIf, true_implies, false_implies, Bool.true_eq_false, Bool.false_eq_true, reduceCtorEq, true_and, and_true, hT2, g53_0]
   refine hM _ _ ?_
   clear hM M
   exact pops_done (hJ93 _ _ sj94 (wk_same (wk_any ((wk_any ((wk_any ((wk_any ((wk_any ((wk_any ((wk_any ((wk_any ((wk_any ((wk_any (Wk.refl _ _))))))))))))))))))))))
  ·skip
   intro g53_0 J93 hJ93
   simp only [List.take_succ_cons, List.take_zero]
   simp only [anyAt_cons, anyAt_nil] at hJ93
   refine pops_off (b := true) rfl rfl (by simp only [upd_at, Nat.reduceEqDiff, if_true, if_false, hT2, g53_0]) (by decide) ?_
   refine pops_off (b := true) rfl rfl (by simp only [upd_at, Nat.reduceEqDiff, if_true, if_false, hT2, g53_0]) (by decide) ?_
   refine pops_off0 rfl rfl (by simp only [upd_at, Nat.reduceEqDiff, if_true, if_false, hT2, g53_0]) ?_
   refine pops_off0 rfl rfl (by simp only [upd_at, Nat.reduceEqDiff, if_true, if_false, hT2, g53_0]) ?_
   refine pops_off0 rfl rfl (by simp only [upd_at, Nat.reduceEqDiff, if_true, if_false, hT2, g53_0]) ?_
   refine pops_off0 rfl rfl (by simp only [upd_at, Nat.reduceEqDiff, if_true, if_false, hT2, g53_0]) ?_
   refine pops_off0 rfl rfl (by simp only [upd_at, Nat.reduceEqDiff, if_true, if_false, hT2, g53_0]) ?_
   refine pops_off0 rfl rfl (by simp only [upd_at, Nat.reduceEqDiff, if_true, if_false, hT2, g53_0]) ?_
   refine pops_off0 rfl rfl (by simp only [upd_at, Nat.reduceEqDiff, if_true, if_false, hT2, g53_0]) ?_
   refine pops_off (b := true) rfl rfl (by simp only [upd_at, Nat.reduceEqDiff, if_true, if_false, hT2, g53_0]) (by decide) ?_
   refine pops_to rfl fun M hM => ?_
   simp only [pop, St.eval, constSlot, upd_at, Nat.reduceEqDiff, if_true, if_false, popIf, true_implies, false_implies, Bool.true_eq_false, Bool.false_eq_true, reduceCtorEq, true_and, and_true, hT2, g53_0]
   refine hM _ _ ?_
   clear hM M
   exact pops_done (hJ93 _ _ (Same.refl _) (wk_same (wk_any ((wk_any ((wk_any ((wk_any ((wk_any ((wk_any ((wk_any ((wk_any ((wk_any ((wk_any (Wk.refl _ _))))))))))))))))))))))
  simp only [List.drop_succ_cons, List.drop_zero, anyAt_cons, anyAt_nil]
  intro hj93 sj93
  replace sj93 := Same.trans sj90 sj93
  refine pops_done (hR89 _ ?_)
  clear hR89 R89
  try simp only [thenK, scopeK]
  refine hN88 _ ?_
  clear hN88 N88
  refine pwp_cond (by simp only [St.eval, upd_at, Nat.reduceEqDiff, if_true, if_false, hT2] <;> rfl) (fun c64 => ?_) (fun c64 => ?_)
  ·skip
   rw [bad_prog] at c64
   have hend : sizeR s = (0, 9) := by rw [hend0, sizeT, if_pos c64]
   refine pwp_then fun N96 hN96 => ?_
   refine pwp_reg fun R97 hR97 => ?_
   refine pops_mv (.inr rfl) rfl (by simp only [St.eval, constSlot] <;> rfl) ?_
   refine pops_mv (.inr rfl) rfl (by simp only [St.eval, constSlot] <;> rfl) ?_
   refine pops_done (hR97 _ ?_)
   clear hR97 R97
   try simp only [thenK, scopeK]
   refine hN96 _ ?_
   clear hN96 N96
   refine pwp_ret ?_
   simp only [thenK, blockK, scopeK, bodyK]
   clear hN87 N87
   refine ⟨_, rfl, endFun sj93 ?_⟩
   try simp only [upd_at, Nat.reduceEqDiff, if_true, if_false, hT2]
   all_goals
    first | rw [hend] | rw [show sizeR T = sizeR s by rw [hT2], hend]
  ·skip
   rw [bad_prog] at c64
   obtain ⟨hwne, hbw, hbp⟩ := badR_not c64
   have hend1 : sizeR s = coreR (T.takeWhile not46) (T.dropWhile not46).tail (1024 ^ u) := by rw [hend0, sizeT, if_neg (by rw [c64]; decide)]
   have hq78 : IntKind.u64.wrap (Int.tdiv 4611686018427387904 (((1024 ^ u) : Nat) : Int)) = ((4611686018427387904 / (1024 ^ u) : Nat) : Int) := quo_u64 4611686018427387904 (1024 ^ u) (by decide)
   have hfv := fracV_le (u := (1024 ^ u)) hbp
   refine pwp_skip ?_
   try simp only [thenK, scopeK]
   refine hN87 _ ?_
   clear hN87 N87
   refine pwp_then fun N98 hN98 => ?_
   refine pwp_reg fun R99 hR99 => ?_
   refine pops_mv (.inl rfl) rfl (by simp only [St.eval, upd_at, Nat.reduceEqDiff, if_true, if_false, hT2] <;> rfl) ?_
   refine pops_to rfl fun M hM => ?_
   simp only [pop, St.eval, constSlot, upd_at, Nat.reduceEqDiff, if_true, if_false, popCall, List.toList_toArray, List.map_cons, List.map_nil, svs, List.mapM_cons, List.mapM_nil, Option.bind_eq_bind, Option.bind_some, Option.pure_def, List.append_nil, List.cons_append, List.nil_append, str_size, hT2]
   refine PFun.use (pub_fun W0 hE (T.takeWhile not46) hbw hwne (by omega)) fun h15 s15 => hM _ _ ?_
   replace s15 := Same.trans sj93 s15
   clear hM M
   refine pops_mv (.inl rfl) rfl (by simp only [St.eval, upd_at, Nat.reduceEqDiff, if_true, if_false, hT2] <;> rfl) ?_
   refine pops_to rfl fun M hM => ?_
   simp only [pop, St.eval, constSlot, upd_at, Nat.reduceEqDiff, if_true, if_false, List.getElem?_toArray, List.getElem?_cons_zero, List.getElem?_cons_succ, hT2]
   refine hM _ _ ?_
   clear hM M
   refine pops_to rfl fun M hM => ?_
   simp only [pop, St.eval, constSlot, upd_at, Nat.reduceEqDiff, if_true, if_false, List.getElem?_toArray, List.getElem?_cons_zero, List.getElem?_cons_succ, hT2]
   refine hM _ _ ?_
   clear hM M
   refine pops_mv (.inr rfl) rfl (by simp only [St.eval, upd_at, Nat.reduceEqDiff, if_true, if_false, hT2] <;> rfl) ?_
   refine pops_mv (.inr rfl) rfl (by simp only [St.eval, upd_at, Nat.reduceEqDiff, if_true, if_false, hT2] <;> rfl) ?_
   refine pops_done (hR99 _ ?_)
   clear hR99 R99
   try simp only [thenK, scopeK]
   refine hN98 _ ?_
   clear hN98 N98
   refine pwp_then fun N100 hN100 => ?_
   refine pwp_reg fun R101 hR101 => ?_
   refine pops_mv (.inl rfl) rfl (by simp only [St.eval, upd_at, Nat.reduceEqDiff, if_true, if_false, hT2] <;> rfl) ?_
   refine pops_to rfl fun M hM => ?_
   simp only [pop, St.eval, constSlot, upd_at, Nat.reduceEqDiff, if_true, if_false, popBin, binK, intK, strK, eqK, eq_self, true_and, and_true, hT2]
   refine hM _ _ ?_
   clear hM M
   refine pops_to rfl fun M hM => ?_
   simp only [pop, St.eval, constSlot, upd_at, Nat.reduceEqDiff, if_true, if_false, popBin, binK, intK, strK, eqK, eq_self, true_and, and_true, hT2, hshl]
   refine ⟨hge, hM _ _ ?_⟩
   clear hM M
   refine pops_mv (.inr rfl) rfl (by simp only [St.eval, upd_at, Nat.reduceEqDiff, if_true, if_false, hT2] <;> rfl) ?_
   refine pops_done (hR101 _ ?_)
   clear hR101 R101
   try simp only [thenK, scopeK]
   refine hN100 _ ?_
   clear hN100 N100
   refine pwp_then fun N102 hN102 => ?_
   refine pwp_then fun N103 hN103 => ?_
   refine pwp_reg fun R104 hR104 => ?_
   refine pops_mv (.inl rfl) rfl (by simp only [St.eval, upd_at, Nat.reduceEqDiff, if_true, if_false, hT2] <;> rfl) ?_
   refine pops_to rfl fun M hM => ?_
   simp only [pop, St.eval, constSlot, upd_at, Nat.reduceEqDiff, if_true, if_false, eq_self, true_and, and_true, hT2]
   refine nil_neq Tryd.underlying77 (rfl : puX (T.takeWhile not46) = _) (.inl rfl) (hM _ _ ?_)
   clear hM M
   refine pops_mv (.inl rfl) rfl (by simp only [St.eval, upd_at, Nat.reduceEqDiff, if_true, if_false, hT2] <;> rfl) ?_
   apply pops_or0 5 75 80 [76, 77, 78, 79] (by simp only [upd_at, Nat.reduceEqDiff, if_true, if_false, hT2] <;> rfl)
   ·skip
    intro g75_0 J105 hJ105
    simp only [List.take_succ_cons, List.take_zero]
    simp only [anyAt_cons, anyAt_nil] at hJ105
    refine pops_mvg (.inl rfl) rfl rfl (by simp only [upd_at, Nat.reduceEqDiff, if_true, if_false, hT2, g75_0]) (by simp only [St.eval, upd_at, Nat.reduceEqDiff, if_true, if_false, hT2, g75_0] <;> rfl) ?_
    refine pops_mvg (.inl rfl) rfl rfl (by simp only [upd_at, Nat.reduceEqDiff, if_true, if_false, hT2, g75_0]) (by simp only [St.eval, upd_at, Nat.reduceEqDiff, if_true, if_false, hT2, g75_0] <;> rfl) ?_
    refine pops_do rfl rfl (by simp only [upd_at, Nat.reduceEqDiff, if_true, if_false, hT2, g75_0]) fun M hM => ?_
    simp only [pop, St.eval, constSlot, upd_at, Nat.reduceEqDiff, if_true, if_false, popBin, binK, intK, strK, eqK, eq_self, true_and, and_true, hT2, g75_0, hq78]
    refine ⟨by have := hpu.1; omega, hM _ _ ?_⟩
    clear hM M
    refine pops_do rfl rfl (by simp only [upd_at, Nat.reduceEqDiff, if_true, if_false, hT2, g75_0]) fun M hM => ?_
    simp only [pop, St.eval, constSlot, upd_at, Nat.reduceEqDiff, if_true, if_false, popBin, binK, intK, strK, eqK, eq_self, true_and, and_true, hT2, g75_0]
    refine hM _ _ ?_
    clear hM M
    refine pops_to rfl fun M hM => ?_
    simp only [pop, St.eval, constSlot, upd_at, Nat.reduceEqDiff, if_true, if_false, popIf, true_implies, false_implies, Bool.true_eq_false, Bool.false_eq_true, reduceCtorEq, true_and, and_true, hT2, g75_0]
    refine hM _ _ ?_
    clear hM M
    exact pops_done (hJ105 _ (wk_same (wk_any ((wk_any ((wk_any ((wk_any (Wk.refl _ _))))))))))
   ·skip
    intro g75_0 J105 hJ105
    simp only [List.take_succ_cons, List.take_zero]
    simp only [anyAt_cons, anyAt_nil] at hJ105
    refine pops_off (b := true) rfl rfl (by simp only [upd_at, Nat.reduceEqDiff, if_true, if_false, hT2, g75_0]) (by decide) ?_
    refine pops_off (b := true) rfl rfl (by simp only [upd_at, Nat.reduceEqDiff, if_true, if_false, hT2, g75_0]) (by decide) ?_
    refine pops_off (b := true) rfl rfl (by simp only [upd_at, Nat.reduceEqDiff, if_true, if_false, hT2, g75_0]) (by decide) ?_
    refine pops_off (b := true) rfl rfl (by simp only [upd_at, Nat.reduceEqDiff, if_true, if_false, hT2, g75_0]) (by decide) ?_
    refine pops_to rfl fun M hM => ?_
    simp only [pop, St.eval, constSlot, upd_at, Nat.reduceEqDiff, if_true, if_false, popIf, true_implies, false_implies, Bool.true_eq_false, Bool.false_eq_true, reduceCtorEq, true_and, and_true, hT2, g75_0]
    refine hM _ _ ?_
    clear hM M
    exact pops_done (hJ105 _ (wk_same (wk_any ((wk_any ((wk_any ((wk_any (Wk.refl _ _))))))))))
   simp only [List.drop_succ_cons, List.drop_zero, anyAt_cons, anyAt_nil]
   refine pops_done (hR104 _ ?_)
   clear hR104 R104
   try simp only [thenK, scopeK]
   refine hN103 _ ?_
   clear hN103 N103
   refine pwp_cond (by simp only [St.eval, upd_at, Nat.reduceEqDiff, if_true, if_false, hT2] <;> rfl) (fun c80 => ?_) (fun c80 => ?_)
   ·skip
    have h80 : (puB (T.takeWhile not46) || decide (MOST / (1024 ^ u) < puV (T.takeWhile not46))) = true := by rw [← c80]; congr 1; exact decide_eq_decide.2 (by show 4611686018427387904 / (1024 ^ u) < _ ↔ _; omega)
    have hend : sizeR s = (0, 7) := by rw [hend1, coreR, if_pos h80]
    refine pwp_then fun N106 hN106 => ?_
    refine pwp_reg fun R107 hR107 => ?_
    refine pops_mv (.inr rfl) rfl (by simp only [St.eval, constSlot] <;> rfl) ?_
    refine pops_mv (.inr rfl) rfl (by simp only [St.eval, constSlot] <;> rfl) ?_
    refine pops_done (hR107 _ ?_)
    clear hR107 R107
    try simp only [thenK, scopeK]
    refine hN106 _ ?_
    clear hN106 N106
    refine pwp_ret ?_
    simp only [thenK, blockK, scopeK, bodyK]
    clear hN102 N102
    refine ⟨_, rfl, endFun s15 ?_⟩
    try simp only [upd_at, Nat.reduceEqDiff, if_true, if_false, hT2]
    all_goals
     first | rw [hend] | rw [show sizeR T = sizeR s by rw [hT2], hend]
   ·skip
    have h80 : (puB (T.takeWhile not46) || decide (MOST / (1024 ^ u) < puV (T.takeWhile not46))) = false := by rw [← c80]; congr 1; exact decide_eq_decide.2 (by show 4611686018427387904 / (1024 ^ u) < _ ↔ _; omega)
    have hend2 : sizeR s = (if MOST - fracV (1024 ^ u) (T.dropWhile not46).tail < puV (T.takeWhile not46) * (1024 ^ u) then ((0 : Int), (7 : Int)) else (((puV (T.takeWhile not46) * (1024 ^ u) + fracV (1024 ^ u) (T.dropWhile not46).tail : Nat) : Int), 0)) := by rw [hend1, coreR, if_neg (by rw [h80]; decide)]
    have hle80 : ¬ 4611686018427387904 / (1024 ^ u) < puV (T.takeWhile not46) := by simp only [Bool.or_eq_false_iff, decide_eq_false_iff_not] at h80; exact h80.2
    have hx80 := times_le hle80
    have hw83 : IntKind.u64.wrap (((puV (T.takeWhile not46) : Nat) : Int) * (((1024 ^ u) : Nat) : Int)) = ((puV (T.takeWhile not46) * (1024 ^ u) : Nat) : Int) := by rw [← Int.natCast_mul, wrap_u64 (by omega) (by have : puV (T.takeWhile not46) * (1024 ^ u) ≤ 4611686018427387904 := hx80; omega)]
    have hw89 : IntKind.u64.wrap (4611686018427387904 - ((fracV (1024 ^ u) (T.dropWhile not46).tail : Nat) : Int)) = ((4611686018427387904 - fracV (1024 ^ u) (T.dropWhile not46).tail : Nat) : Int) := by rw [wrap_u64 (by omega) (by omega)]; omega
    refine pwp_skip ?_
    try simp only [thenK, scopeK]
    refine hN102 _ ?_
    clear hN102 N102
    refine pwp_then fun N108 hN108 => ?_
    refine pwp_reg fun R109 hR109 => ?_
    refine pops_mv (.inl rfl) rfl (by simp only [St.eval, upd_at, Nat.reduceEqDiff, if_true, if_false, hT2] <;> rfl) ?_
    refine pops_mv (.inl rfl) rfl (by simp only [St.eval, upd_at, Nat.reduceEqDiff, if_true, if_false, hT2] <;> rfl) ?_
    refine pops_to rfl fun M hM => ?_
    simp only [pop, St.eval, constSlot, upd_at, Nat.reduceEqDiff, if_true, if_false, popBin, binK, intK, strK, eqK, eq_self, true_and, and_true, hT2, hw83]
    refine hM _ _ ?_
    clear hM M
    refine pops_mv (.inr rfl) rfl (by simp only [St.eval, upd_at, Nat.reduceEqDiff, if_true, if_false, hT2] <;> rfl) ?_
    refine pops_done (hR109 _ ?_)
    clear hR109 R109
    try simp only [thenK, scopeK]
    refine hN108 _ ?_
    clear hN108 N108
    refine pwp_then fun N110 hN110 => ?_
    refine pwp_then fun N111 hN111 => ?_
    refine pwp_reg fun R112 hR112 => ?_
    refine pops_mv (.inl rfl) rfl (by simp only [St.eval, upd_at, Nat.reduceEqDiff, if_true, if_false, hT2] <;> rfl) ?_
    refine pops_mv (.inl rfl) rfl (by simp only [St.eval, upd_at, Nat.reduceEqDiff, if_true, if_false, hT2] <;> rfl) ?_
    refine pops_to rfl fun M hM => ?_
    simp only [pop, St.eval, constSlot, upd_at, Nat.reduceEqDiff, if_true, if_false, popCall, List.toList_toArray, List.map_cons, List.map_nil, svs, List.mapM_cons, List.mapM_nil, Option.bind_eq_bind, Option.bind_some, Option.pure_def, List.append_nil, List.cons_append, List.nil_append, str_size, hT2]
    refine PFun.use (fraction_fun W0 (T.dropWhile not46).tail (1024 ^ u) hbp (by omega) (by omega)) fun h16 s16 => hM _ _ ?_
    replace s16 := Same.trans s15 s16
    clear hM M
    refine pops_mv (.inr rfl) rfl (by simp only [St.eval, upd_at, Nat.reduceEqDiff, if_true, if_false, hT2] <;> rfl) ?_
    refine pops_done (hR112 _ ?_)
    clear hR112 R112
    try simp only [thenK, scopeK]
    refine hN111 _ ?_
    clear hN111 N111
    refine pwp_then fun N113 hN113 => ?_
    refine pwp_reg fun R114 hR114 => ?_
    refine pops_mv (.inl rfl) rfl (by simp only [St.eval, upd_at, Nat.reduceEqDiff, if_true, if_false, hT2] <;> rfl) ?_
    refine pops_mv (.inl rfl) rfl (by simp only [St.eval, upd_at, Nat.reduceEqDiff, if_true, if_false, hT2] <;> rfl) ?_
    refine pops_to rfl fun M hM => ?_
    simp only [pop, St.eval, constSlot, upd_at, Nat.reduceEqDiff, if_true, if_false, popBin, binK, intK, strK, eqK, eq_self, true_and, and_true, hT2, hw89]
    refine hM _ _ ?_
    clear hM M
    refine pops_to rfl fun M hM => ?_
    simp only [pop, St.eval, constSlot, upd_at, Nat.reduceEqDiff, if_true, if_false, popBin, binK, intK, strK, eqK, eq_self, true_and, and_true, hT2]
    refine hM _ _ ?_
    clear hM M
    refine pops_done (hR114 _ ?_)
    clear hR114 R114
    try simp only [thenK, scopeK]
    refine hN113 _ ?_
    clear hN113 N113
    refine pwp_cond (by simp only [St.eval, upd_at, Nat.reduceEqDiff, if_true, if_false, hT2] <;> rfl) (fun c90 => ?_) (fun c90 => ?_)
    ·skip
     have h90 : MOST - fracV (1024 ^ u) (T.dropWhile not46).tail < puV (T.takeWhile not46) * (1024 ^ u) := by have := of_decide_eq_true c90; show 4611686018427387904 - _ < _; omega
     have hend : sizeR s = (0, 7) := by rw [hend2, if_pos h90]
     refine pwp_then fun N115 hN115 => ?_
     refine pwp_reg fun R116 hR116 => ?_
     refine pops_mv (.inr rfl) rfl (by simp only [St.eval, constSlot] <;> rfl) ?_
     refine pops_mv (.inr rfl) rfl (by simp only [St.eval, constSlot] <;> rfl) ?_
     refine pops_done (hR116 _ ?_)
     clear hR116 R116
     try simp only [thenK, scopeK]
     refine hN115 _ ?_
     clear hN115 N115
     refine pwp_ret ?_
     simp only [thenK, blockK, scopeK, bodyK]
     clear hN110 N110
     refine ⟨_, rfl, endFun s16 ?_⟩
     try simp only [upd_at, Nat.reduceEqDiff, if_true, if_false, hT2]
     all_goals
      first | rw [hend] | rw [show sizeR T = sizeR s by rw [hT2], hend]
    ·skip
     have h90 : ¬ MOST - fracV (1024 ^ u) (T.dropWhile not46).tail < puV (T.takeWhile not46) * (1024 ^ u) := by have := of_decide_eq_false c90; show ¬ 4611686018427387904 - _ < _; omega
     have hend : sizeR s = (((puV (T.takeWhile not46) * (1024 ^ u) + fracV (1024 ^ u) (T.dropWhile not46).tail : Nat) : Int), 0) := by rw [hend2, if_neg h90]
     have h91 : puV (T.takeWhile not46) * (1024 ^ u) + fracV (1024 ^ u) (T.dropWhile not46).tail ≤ 4611686018427387904 := by have h92 : ¬ 4611686018427387904 - fracV (1024 ^ u) (T.dropWhile not46).tail < puV (T.takeWhile not46) * (1024 ^ u) := h90; omega
     have hw93 : IntKind.u64.wrap (((puV (T.takeWhile not46) * (1024 ^ u) : Nat) : Int) + ((fracV (1024 ^ u) (T.dropWhile not46).tail : Nat) : Int)) = ((puV (T.takeWhile not46) * (1024 ^ u) + fracV (1024 ^ u) (T.dropWhile not46).tail : Nat) : Int) := by rw [wrap_u64 (by omega) (by omega)]; omega
     have hw95 : IntKind.i64.wrap ((puV (T.takeWhile not46) * (1024 ^ u) + fracV (1024 ^ u) (T.dropWhile not46).tail : Nat) : Int) = ((puV (T.takeWhile not46) * (1024 ^ u) + fracV (1024 ^ u) (T.dropWhile not46).tail : Nat) : Int) := wrap_i64 (by omega) (by omega)
     refine pwp_reg fun R117 hR117 => ?_
     refine pops_mv (.inl rfl) rfl (by simp only [St.eval, upd_at, Nat.reduceEqDiff, if_true, if_false, hT2] <;> rfl) ?_
     refine pops_mv (.inl rfl) rfl (by simp only [St.eval, upd_at, Nat.reduceEqDiff, if_true, if_false, hT2] <;> rfl) ?_
     refine pops_to rfl fun M hM => ?_
     simp only [pop, St.eval, constSlot, upd_at, Nat.reduceEqDiff, if_true, if_false, popBin, binK, intK, strK, eqK, eq_self, true_and, and_true, hT2, hw93]
     refine hM _ _ ?_
     clear hM M
     refine pops_mv (.inr rfl) rfl (by simp only [St.eval, upd_at, Nat.reduceEqDiff, if_true, if_false, hT2] <;> rfl) ?_
     refine pops_done (hR117 _ ?_)
     clear hR117 R117
     try simp only [thenK, scopeK]
     refine hN110 _ ?_
     clear hN110 N110
     refine pwp_then fun N118 hN118 => ?_
     refine pwp_reg fun R119 hR119 => ?_
     refine pops_mv (.inl rfl) rfl (by simp only [St.eval, upd_at, Nat.reduceEqDiff, if_true, if_false, hT2] <;> rfl) ?_
     refine pops_to rfl fun M hM => ?_
     simp only [pop, St.eval, constSlot, upd_at, Nat.reduceEqDiff, if_true, if_false, popConvert, Tryd.underlying73, Tryd.underlying3, eq_self, true_and, and_true, str_list, str_size, str_app, str_cut, str_get, hT2, hw95]
     refine hM _ _ ?_
     clear hM M
     refine pops_mv (.inr rfl) rfl (by simp only [St.eval, upd_at, Nat.reduceEqDiff, if_true, if_false, hT2] <;> rfl) ?_
     refine pops_mv (.inr rfl) rfl (by simp only [St.eval, constSlot] <;> rfl) ?_
     refine pops_done (hR119 _ ?_)
     clear hR119 R119
     try simp only [thenK, scopeK]
     refine hN118 _ ?_
     clear hN118 N118
     refine pwp_ret ?_
     simp only [thenK, blockK, scopeK, bodyK]
     refine ⟨_, rfl, endFun s16 ?_⟩
     try simp only [upd_at, Nat.reduceEqDiff, if_true, if_false, hT2]
     all_goals
      first | rw [hend] | rw [show sizeR T = sizeR s by rw [hT2], hend]
end Go.Pw
