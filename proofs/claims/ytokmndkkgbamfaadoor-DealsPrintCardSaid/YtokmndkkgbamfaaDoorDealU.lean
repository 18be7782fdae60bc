import Derived.Test.YtokmndkkgbamfaaDoorDealV
namespace Go.Pw
open Go Go.RowKit Go.Proofs
set_option maxRecDepth 100000
set_option linter.unusedSimpArgs false
set_option linter.unusedVariables false
theorem bd41 (parts : List (Nat × Slot)) (N : Slot → Prop) : popBuild Tryd.prog 41 parts N = (match fillP [(0, 1), (1, 1), (2, 1), (3, 1), (4, 1)] [PV.val (.string ⟨#[]⟩), PV.val (.string ⟨#[]⟩), PV.val (.string ⟨#[]⟩), PV.val (.string ⟨#[]⟩), PV.val (.string ⟨#[]⟩)] parts with | some ps => N (.sv (.agg ps)) | none => False) :=
  popBuild_of (z := (.agg #[(.string ⟨#[]⟩), (.string ⟨#[]⟩), (.string ⟨#[]⟩), (.string ⟨#[]⟩), (.string ⟨#[]⟩)])) (by kernel_rfl) (by kernel_rfl) (by kernel_rfl) (by kernel_rfl) parts N
theorem sz41 : szOf Tryd.prog 41 = some 5 := by kernel_rfl
theorem ze41 : zeroOf Tryd.prog 41 = some (.agg #[(.string ⟨#[]⟩), (.string ⟨#[]⟩), (.string ⟨#[]⟩), (.string ⟨#[]⟩), (.string ⟨#[]⟩)]) := by kernel_rfl
theorem ze45 : zeroOf Tryd.prog 45 = some (.agg #[(.pointer none), (.slice none 0 0)]) := by kernel_rfl
theorem nm18 : (Tryd.f18.name == "runtime.NumGoroutine") = false := by kernel_rfl
theorem quote_fun (W0 : World) (s : List UInt8) (hs : s.length ≤ 4194304) :
  PFun Tryd.prog W0 18 [.one (pstr s)] (.sv (.one (pstr (quoteB s)))) := by
 intro h
 refine pcalls1 (n := 5) Tryd.func18 rfl nm18 rfl fun hb => ?_
 refine pwp_then fun N1 hN1 => ?_
 refine pwp_reg fun R2 hR2 => ?_
 refine pops_mv (.inr rfl) rfl (by simp only [St.eval, constSlot] <;> rfl) ?_
 refine pops_done (hR2 _ ?_)
 clear hR2 R2
 try simp only [thenK, scopeK]
 refine hN1 _ ?_
 clear hN1 N1
 refine pwp_then fun N3 hN3 => ?_
 refine pwp_reg fun R4 hR4 => ?_
 refine pops_mv (.inl rfl) rfl (by simp only [St.eval, upd_at, Nat.reduceEqDiff, if_true, if_false] <;> rfl) ?_
 refine pops_to rfl fun M hM => ?_
 simp only [pop, St.eval, constSlot, upd_at, Nat.reduceEqDiff, if_true, if_false, popCall, List.toList_toArray, List.map_cons, List.map_nil, svs, List.mapM_cons, List.mapM_nil, Option.bind_eq_bind, Option.bind_some, Option.pure_def, List.append_nil, List.cons_append, List.nil_append, str_size]
 refine PFun.use (quoted_fun W0 s hs) fun h1 s1 => hM _ _ ?_
 replace s1 := Same.trans (Same.refl _) s1
 clear hM M
 refine pops_mv (.inr rfl) rfl (by simp only [St.eval, upd_at, Nat.reduceEqDiff, if_true, if_false] <;> rfl) ?_
 refine pops_done (hR4 _ ?_)
 clear hR4 R4
 try simp only [thenK, scopeK]
 refine hN3 _ ?_
 clear hN3 N3
 refine pwp_ret ?_
 simp only [thenK, blockK, scopeK, bodyK]
 refine ⟨_, rfl, endFun s1 ?_⟩
 try simp only [upd_at, Nat.reduceEqDiff, if_true, if_false]
 all_goals
  rfl

theorem nm6 : (Tryd.f6.name == "runtime.NumGoroutine") = false := by kernel_rfl
set_option maxHeartbeats 4000000 in
theorem printDeal_fun (W0 : World) (hm : HasMax W0) (hp : HasPow W0) (d : DealG) (hI : dealI d) :
  PFun Tryd.prog W0 6 [.agg (dealPV d)] (.tup [.one (pstr (if dealE d = 0 then dealT d else [])), .one (pint (dealE d))]) := by
 intro h
 refine pcalls1 (n := 117) Tryd.func6 rfl nm6 rfl fun hb => ?_
 refine pwp_then fun N1 hN1 => ?_
 refine pwp_reg fun R2 hR2 => ?_
 refine pops_to rfl fun M hM => ?_
 simp only [pop, St.eval, constSlot, upd_at, Nat.reduceEqDiff, if_true, if_false, popBox, popBoxRo, slotCells, dealPV]
 refine .inr ⟨Nat.succ_pos _, hM _ _ ?_⟩
 clear hM M
 refine pops_mv (.inr rfl) rfl (by simp only [St.eval, constSlot] <;> rfl) ?_
 refine pops_mv (.inr rfl) rfl (by simp only [St.eval, constSlot] <;> rfl) ?_
 refine pops_done (hR2 _ ?_)
 clear hR2 R2
 try simp only [thenK, scopeK]
 refine hN1 _ ?_
 clear hN1 N1
 refine pwp_then fun N3 hN3 => ?_
 refine pwp_then fun N4 hN4 => ?_
 refine pwp_reg fun R5 hR5 => ?_
 refine pops_to rfl fun M hM => ?_
 simp only [pop, St.eval, constSlot, upd_at, Nat.reduceEqDiff, if_true, if_false, List.length_cons, List.length_nil, Nat.zero_add, Nat.reduceAdd, Nat.reduceLeDiff, List.take_zero, List.take_succ_cons, List.take_nil, List.drop_succ_cons, List.drop_zero, List.drop_nil, List.nil_append, List.cons_append, List.append_nil, and_self, List.getElem?_cons_zero, List.getElem?_cons_succ, List.set_cons_zero, List.set_cons_succ, Option.some.injEq, popLoad, loadK, isAggD, List.drop_zero, List.getElem?_toArray, List.getElem?_cons_zero, List.getElem?_cons_succ, Bool.false_eq_true, Tryd.underlying26, sz26, eq_self, true_and, and_true, dealPV]
 refine hM _ _ ?_
 clear hM M
 refine pops_to rfl fun M hM => ?_
 simp only [pop, St.eval, constSlot, upd_at, Nat.reduceEqDiff, if_true, if_false, popCall, List.toList_toArray, List.map_cons, List.map_nil, svs, List.mapM_cons, List.mapM_nil, Option.bind_eq_bind, Option.bind_some, Option.pure_def, List.append_nil, List.cons_append, List.nil_append, str_size, dealPV]
 refine PFun.use (checkDeal_fun W0 hm d) fun h1 s1 => hM _ _ ?_
 replace s1 := Same.trans (Same.refl _) s1
 clear hM M
 refine pops_mv (.inr rfl) rfl (by simp only [St.eval, upd_at, Nat.reduceEqDiff, if_true, if_false, dealPV] <;> rfl) ?_
 refine pops_done (hR5 _ ?_)
 clear hR5 R5
 try simp only [thenK, scopeK]
 refine hN4 _ ?_
 clear hN4 N4
 refine pwp_then fun N6 hN6 => ?_
 refine pwp_reg fun R7 hR7 => ?_
 refine pops_mv (.inl rfl) rfl (by simp only [St.eval, upd_at, Nat.reduceEqDiff, if_true, if_false, dealPV] <;> rfl) ?_
 refine pops_to rfl fun M hM => ?_
 simp only [pop, St.eval, constSlot, upd_at, Nat.reduceEqDiff, if_true, if_false, popBin, binK, intK, strK, eqK, Tryd.underlying28, isPtr, eq_self, true_and, and_true, dealPV]
 refine hM _ _ ?_
 clear hM M
 refine pops_done (hR7 _ ?_)
 clear hR7 R7
 try simp only [thenK, scopeK]
 refine hN6 _ ?_
 clear hN6 N6
 refine pwp_cond (by simp only [St.eval, upd_at, Nat.reduceEqDiff, if_true, if_false, dealPV] <;> rfl) (fun c20 => ?_) (fun c20 => ?_)
 ·skip
  have hne : dealE d ≠ 0 := by simpa using c20
  refine pwp_then fun N8 hN8 => ?_
  refine pwp_reg fun R9 hR9 => ?_
  refine pops_mv (.inl rfl) rfl (by simp only [St.eval, upd_at, Nat.reduceEqDiff, if_true, if_false, dealPV] <;> rfl) ?_
  refine pops_mv (.inr rfl) rfl (by simp only [St.eval, constSlot] <;> rfl) ?_
  refine pops_mv (.inr rfl) rfl (by simp only [St.eval, upd_at, Nat.reduceEqDiff, if_true, if_false, dealPV] <;> rfl) ?_
  refine pops_done (hR9 _ ?_)
  clear hR9 R9
  try simp only [thenK, scopeK]
  refine hN8 _ ?_
  clear hN8 N8
  refine pwp_ret ?_
  simp only [thenK, blockK, scopeK, bodyK]
  clear hN3 N3
  refine ⟨_, rfl, endFun s1 ?_⟩
  try simp only [upd_at, Nat.reduceEqDiff, if_true, if_false, dealPV]
  all_goals
   rw [if_neg hne]
 ·skip
  have h0 : dealE d = 0 := by simpa using c20
  obtain ⟨a1, a2, a3, a4, a5, a6, a7, a8⟩ := deal_ok h0
  refine pwp_skip ?_
  try simp only [thenK, scopeK]
  refine hN3 _ ?_
  clear hN3 N3
  refine pwp_then fun N10 hN10 => ?_
  refine pwp_reg fun R11 hR11 => ?_
  refine pops_to rfl fun M hM => ?_
  simp only [pop, St.eval, constSlot, upd_at, Nat.reduceEqDiff, if_true, if_false, fillP, slotCells, splice, List.toList_toArray, List.map_cons, List.map_nil, List.length_cons, List.length_nil, Nat.zero_add, Nat.reduceAdd, Nat.reduceLeDiff, List.take_zero, List.take_succ_cons, List.take_nil, List.drop_succ_cons, List.drop_zero, List.drop_nil, List.nil_append, List.cons_append, List.append_nil, and_self, List.getElem?_cons_zero, List.getElem?_cons_succ, List.set_cons_zero, List.set_cons_succ, Option.some.injEq, bd41, eq_self, true_and, and_true, str_list, str_size, str_app, str_cut, str_get, dealPV]
  refine hM _ _ ?_
  clear hM M
  refine pops_var (hpOk.same hb s1) rfl ze41 (zs := [PV.val (.string ⟨#[]⟩), PV.val (.string ⟨#[]⟩), PV.val (.string ⟨#[]⟩), PV.val (.string ⟨#[]⟩), PV.val (.string ⟨#[]⟩)]) (by kernel_rfl) (by simp) (by simp only [St.eval, constSlot, slotCells, upd_at, Nat.reduceEqDiff, if_true, if_false, dealPV] <;> rfl) (by rfl) (by exact Nat.succ_pos _) (by rw [sz41]; rfl) (fun hv12 sv12 => ?_)
  replace sv12 := Same.trans s1 sv12
  refine pops_done (hR11 _ ?_)
  clear hR11 R11
  try simp only [thenK, scopeK]
  refine hN10 _ ?_
  clear hN10 N10
  refine pwp_then fun N13 hN13 => ?_
  refine pwp_reg fun R14 hR14 => ?_
  refine pops_to rfl fun M hM => ?_
  simp only [pop, St.eval, constSlot, upd_at, Nat.reduceEqDiff, if_true, if_false, popAlloc, popBox, slotCells, ze45, eq_self, true_and, and_true, str_list, str_size, str_app, str_cut, str_get, dealPV, show (#[Value.pointer none, Value.slice none 0 0].all fun x => x.oneCell') = true by kernel_rfl, List.map_cons, List.map_nil]
  refine ⟨by exact Nat.succ_pos _, fun id hid => hM _ _ ?_⟩
  have hB0 : Bld 45 5 h _ id [] := Bld.fresh (tb := 45) (t8 := 5) (Same.keeps sv12) hid
  clear hM M
  refine pops_done (hR14 _ ?_)
  clear hR14 R14
  try simp only [thenK, scopeK]
  refine hN13 _ ?_
  clear hN13 N13
  refine pwp_then fun N15 hN15 => ?_
  refine pwp_reg fun R16 hR16 => ?_
  refine pops_to rfl fun M hM => ?_
  simp only [pop, St.eval, constSlot, upd_at, Nat.reduceEqDiff, if_true, if_false, onesOf, List.toList_toArray, List.map_cons, List.map_nil, List.mapM_cons, List.mapM_nil, Option.bind_eq_bind, Option.bind_some, Option.pure_def, eq_self, true_and, dealPV]
  refine hM _ _ ?_
  clear hM M
  refine pops_mv (.inr rfl) rfl (by simp only [St.eval, upd_at, Nat.reduceEqDiff, if_true, if_false, dealPV] <;> rfl) ?_
  refine pops_done (hR16 _ ?_)
  clear hR16 R16
  try simp only [thenK, scopeK]
  refine hN15 _ ?_
  clear hN15 N15
  refine pwp_then fun N17 hN17 => ?_
  refine pwp_then fun N18 hN18 => ?_
  refine pwp_reg fun R19 hR19 => ?_
  refine pops_to rfl fun M hM => ?_
  simp only [pop, St.eval, constSlot, upd_at, Nat.reduceEqDiff, if_true, if_false, popFieldAddr, fieldOf, List.drop_succ_cons, List.drop_zero, List.getElem?_toArray, List.getElem?_cons_zero, List.getElem?_cons_succ, Tryd.underlying26, sz22, dealPV]
  refine ⟨⟨_, rfl⟩, hM _ _ ?_⟩
  clear hM M
  refine pops_to rfl fun M hM => ?_
  simp only [pop, St.eval, constSlot, upd_at, Nat.reduceEqDiff, if_true, if_false, popLoad, loadK, isAggD, List.drop_zero, List.getElem?_toArray, List.getElem?_cons_zero, List.getElem?_cons_succ, Bool.false_eq_true, Tryd.underlying22, sz22, eq_self, true_and, and_true, dealPV]
  refine hM _ _ ?_
  clear hM M
  refine pops_to rfl fun M hM => ?_
  simp only [pop, St.eval, constSlot, upd_at, Nat.reduceEqDiff, if_true, if_false, popCall, List.toList_toArray, List.map_cons, List.map_nil, popBuiltin, popLen, lenOfSlot, List.length_map, Tryd.underlying22, eq_self, true_and, and_true, str_list, str_size, str_app, str_cut, str_get, dealPV, List.length_map]
  refine hM _ _ ?_
  clear hM M
  refine pops_mv (.inl rfl) rfl (by simp only [St.eval, constSlot] <;> rfl) ?_
  refine pops_done (hR19 _ ?_)
  clear hR19 R19
  try simp only [thenK, scopeK]
  refine hN18 _ ?_
  clear hN18 N18
  refine pwp_block ?_
  refine pwp_loop (fun k σ => ∃ (i : Nat), (k = d.acts.length - i) ∧ (i ≤ d.acts.length) ∧ (Bld 45 5 h σ.hp id (actT d i)) ∧ (σ.env 1 = .sv (.one (.rop (dealPV d)))) ∧ (σ.env 5 = .sv (.one (.rop [pstr [], pstr [112, 117, 116], pstr [107, 101, 101, 112], pstr [114, 101, 109, 111, 118, 101], pstr [99, 108, 101, 97, 114]]))) ∧ (σ.env 6 = .sv (.one (.ptr id 0 0 0))) ∧ (σ.env 7 = .sv (.one (.clo (.func 14) [.ptr id 0 0 0]))) ∧ (σ.env 25 = .sv (.one (.ro false 6 (d.acts.map actPV)))) ∧ (σ.env 26 = .sv (.one (pint (d.acts.length : Nat)))) ∧ (σ.env 27 = .sv (.one (pint (i : Nat))))) _ ⟨_, .refl _ _, 0, rfl, ?_⟩ ?_
  · exact ⟨Nat.zero_le _, hB0, by simp only [upd_at, Nat.reduceEqDiff, if_true, if_false, dealPV], by simp only [upd_at, Nat.reduceEqDiff, if_true, if_false, dealPV], by simp only [upd_at, Nat.reduceEqDiff, if_true, if_false, dealPV], by simp only [upd_at, Nat.reduceEqDiff, if_true, if_false, dealPV], by simp only [upd_at, Nat.reduceEqDiff, if_true, if_false, dealPV], by simp only [upd_at, Nat.reduceEqDiff, if_true, if_false, dealPV], by simp only [upd_at, Nat.reduceEqDiff, if_true, if_false] <;> rfl⟩
  ·rintro k ⟨e, hp0⟩ ⟨i, hk0, hx0_0, sl0, e0_1, e0_5, e0_6, e0_7, e0_25, e0_26, e0_27⟩
   simp only at sl0 e0_1 e0_5 e0_6 e0_7 e0_25 e0_26 e0_27
   have hB := sl0
   refine pwp_hpok fun hok0 => ?_
   simp only at hok0
   refine pwp_then fun N20 hN20 => ?_
   refine pwp_reg fun R21 hR21 => ?_
   refine pops_to rfl fun M hM => ?_
   simp only [pop, St.eval, constSlot, upd_at, Nat.reduceEqDiff, if_true, if_false, popBin, binK, intK, strK, eqK, eq_self, true_and, and_true, e0_1, e0_5, e0_6, e0_7, e0_25, e0_26, e0_27, dealPV]
   refine hM _ _ ?_
   clear hM M
   refine pops_done (hR21 _ ?_)
   clear hR21 R21
   try simp only [thenK, scopeK]
   refine hN20 _ ?_
   clear hN20 N20
   refine pwp_then fun N22 hN22 => ?_
   refine pwp_cond (by simp only [St.eval, upd_at, Nat.reduceEqDiff, if_true, if_false, e0_1, e0_5, e0_6, e0_7, e0_25, e0_26, e0_27, dealPV] <;> rfl) (fun c28 => ?_) (fun c28 => ?_)
   ·skip
    have hi : i < d.acts.length := by have := of_decide_eq_true c28; omega
    obtain ⟨x, hx⟩ : ∃ x, d.acts[i]? = some x := ⟨_, List.getElem?_eq_getElem hi⟩
    have hget : (d.acts.map actPV)[i]? = some [pint x.kind, pint x.side, pstr x.src, pstr x.dst, pint x.size, pint x.time] := by simp only [List.getElem?_map, hx, Option.map_some]
    have hxm := List.mem_of_getElem? hx
    obtain ⟨k1, k2, k3, k4⟩ := actE_ok (a5 x hxm)
    obtain ⟨w1, ⟨wr, w2⟩, w3⟩ := word_at k1
    obtain ⟨z1, z2, z3, z4, z5⟩ := side_at k2
    obtain ⟨_, _, xi1, xi2⟩ := hI.1 x hxm
    have hq1 := quote_1024 k3
    have hq2 := quote_1024 k4
    have hw6 := word_len x.kind
    have hs1 := side_len x.side
    have hi1 := itoa_21 xi1
    have hi2 := itoa_21 xi2
    have hT := (deal_len h0 hI i).1
    have hL := actL_len (a5 x hxm) xi1 xi2
    refine pwp_skip ?_
    try simp only [thenK, scopeK]
    refine hN22 _ ?_
    clear hN22 N22
    refine pwp_then fun N23 hN23 => ?_
    refine pwp_block ?_
    refine pwp_then fun N24 hN24 => ?_
    refine pwp_reg fun R25 hR25 => ?_
    refine pops_to rfl fun M hM => ?_
    simp only [pop, St.eval, constSlot, upd_at, Nat.reduceEqDiff, if_true, if_false, popIndexAddr, Tryd.underlying22, sz35, eq_self, true_and, and_true, str_list, str_size, str_app, str_cut, str_get, e0_1, e0_5, e0_6, e0_7, e0_25, e0_26, e0_27, dealPV, hget, Int.toNat_natCast]
    refine ⟨Int.natCast_nonneg _, hM _ _ ?_⟩
    clear hM M
    refine pops_to rfl fun M hM => ?_
    simp only [pop, St.eval, constSlot, upd_at, Nat.reduceEqDiff, if_true, if_false, List.length_cons, List.length_nil, Nat.zero_add, Nat.reduceAdd, Nat.reduceLeDiff, List.take_zero, List.take_succ_cons, List.take_nil, List.drop_succ_cons, List.drop_zero, List.drop_nil, List.nil_append, List.cons_append, List.append_nil, and_self, List.getElem?_cons_zero, List.getElem?_cons_succ, List.set_cons_zero, List.set_cons_succ, Option.some.injEq, popLoad, loadK, isAggD, List.drop_zero, List.getElem?_toArray, List.getElem?_cons_zero, List.getElem?_cons_succ, Bool.false_eq_true, Tryd.underlying35, sz35, eq_self, true_and, and_true, e0_1, e0_5, e0_6, e0_7, e0_25, e0_26, e0_27, dealPV]
    refine hM _ _ ?_
    clear hM M
    refine pops_var (hpOk.same hok0 (Same.refl _)) rfl ze35 (zs := [PV.val (.int .i64 0), PV.val (.int .i64 0), PV.val (.string ⟨#[]⟩), PV.val (.string ⟨#[]⟩), PV.val (.int .i64 0), PV.val (.int .i64 0)]) (by kernel_rfl) (by simp) (by simp only [St.eval, constSlot, slotCells, upd_at, Nat.reduceEqDiff, if_true, if_false, e0_1, e0_5, e0_6, e0_7, e0_25, e0_26, e0_27, dealPV] <;> rfl) (by rfl) (by exact Nat.succ_pos _) (by rw [sz35]; rfl) (fun hv26 sv26 => ?_)
    refine pops_done (hR25 _ ?_)
    clear hR25 R25
    try simp only [thenK, scopeK]
    refine hN24 _ ?_
    clear hN24 N24
    refine pwp_then fun N27 hN27 => ?_
    refine pwp_dreg 12 mixed (by decide +kernel) fun R28 hR28 => ?_
    simp only [List.take_succ_cons, List.take_zero, List.drop_succ_cons, List.drop_zero]
    apply lex_to
    · rfl
    ·intro h' s' M hM
     simp only [pop, St.eval, constSlot, upd_at, Nat.reduceEqDiff, if_true, if_false, popFieldAddr, fieldOf, List.drop_succ_cons, List.drop_zero, List.getElem?_toArray, List.getElem?_cons_zero, List.getElem?_cons_succ, Tryd.underlying35, sz3, e0_1, e0_5, e0_6, e0_7, e0_25, e0_26, e0_27, dealPV, s'.1]
     exact ⟨⟨_, rfl⟩, hM _ (.refl _)⟩
    apply lex_to
    · rfl
    ·intro h' s' M hM
     simp only [pop, St.eval, constSlot, upd_at, Nat.reduceEqDiff, if_true, if_false, popLoad, loadK, isAggD, List.drop_zero, List.getElem?_toArray, List.getElem?_cons_zero, List.getElem?_cons_succ, Bool.false_eq_true, Tryd.underlying3, sz3, eq_self, true_and, and_true, e0_1, e0_5, e0_6, e0_7, e0_25, e0_26, e0_27, dealPV, s'.1]
     exact hM _ (.refl _)
    apply lex_to
    · rfl
    ·intro h' s' M hM
     simp only [pop, St.eval, constSlot, upd_at, Nat.reduceEqDiff, if_true, if_false, popIndexAddr, Tryd.underlying41, sz9, eq_self, true_and, and_true, str_list, str_size, str_app, str_cut, str_get, e0_1, e0_5, e0_6, e0_7, e0_25, e0_26, e0_27, dealPV, Nat.mul_one, w2, s'.1]
     refine ⟨w1.1, w1.2, ?_⟩
     exact hM _ (.refl _)
    apply lex_to
    · rfl
    ·intro h' s' M hM
     simp only [pop, St.eval, constSlot, upd_at, Nat.reduceEqDiff, if_true, if_false, popLoad, loadK, isAggD, List.drop_zero, List.getElem?_toArray, List.getElem?_cons_zero, List.getElem?_cons_succ, Bool.false_eq_true, Tryd.underlying9, sz9, eq_self, true_and, and_true, e0_1, e0_5, e0_6, e0_7, e0_25, e0_26, e0_27, dealPV, s'.1]
     exact hM _ (.refl _)
    apply lex_to
    · rfl
    ·intro h' s' M hM
     simp only [pop, St.eval, constSlot, upd_at, Nat.reduceEqDiff, if_true, if_false, popBuildSlice, slotCells, List.toList_toArray, List.map_cons, List.map_nil, List.mapM_cons, List.mapM_nil, Option.bind_eq_bind, Option.bind_some, Option.pure_def, Tryd.underlying24, sz9, ze9, by9, eq_self, true_and, and_true, str_list, str_size, str_app, str_cut, str_get, e0_1, e0_5, e0_6, e0_7, e0_25, e0_26, e0_27, dealPV, s'.1]
     exact ⟨by decide, by decide, rfl, rfl, by simp, by decide, rfl, hM _ (.refl _)⟩
    apply lex_to
    · rfl
    ·intro h' s' M hM
     simp only [pop, St.eval, constSlot, upd_at, Nat.reduceEqDiff, if_true, if_false, popFieldAddr, fieldOf, List.drop_succ_cons, List.drop_zero, List.getElem?_toArray, List.getElem?_cons_zero, List.getElem?_cons_succ, Tryd.underlying35, sz3, e0_1, e0_5, e0_6, e0_7, e0_25, e0_26, e0_27, dealPV, s'.1]
     exact ⟨⟨_, rfl⟩, hM _ (.refl _)⟩
    apply lex_to
    · rfl
    ·intro h' s' M hM
     simp only [pop, St.eval, constSlot, upd_at, Nat.reduceEqDiff, if_true, if_false, popLoad, loadK, isAggD, List.drop_zero, List.getElem?_toArray, List.getElem?_cons_zero, List.getElem?_cons_succ, Bool.false_eq_true, Tryd.underlying3, sz3, eq_self, true_and, and_true, e0_1, e0_5, e0_6, e0_7, e0_25, e0_26, e0_27, dealPV, s'.1]
     exact hM _ (.refl _)
    apply lex_to
    · rfl
    ·intro h' s' M hM
     simp only [pop, St.eval, constSlot, upd_at, Nat.reduceEqDiff, if_true, if_false, popBin, binK, intK, strK, eqK, eq_self, true_and, and_true, e0_1, e0_5, e0_6, e0_7, e0_25, e0_26, e0_27, dealPV, s'.1]
     exact hM _ (.refl _)
    apply lex_to
    · rfl
    ·intro h' s' M hM
     simp only [pop, St.eval, constSlot, upd_at, Nat.reduceEqDiff, if_true, if_false, popIndexAddr, Tryd.underlying24, sz9, eq_self, true_and, and_true, str_list, str_size, str_app, str_cut, str_get, e0_1, e0_5, e0_6, e0_7, e0_25, e0_26, e0_27, dealPV, z2, s'.1]
     refine ⟨z1, ?_⟩
     exact hM _ (.refl _)
    apply lex_to
    · rfl
    ·intro h' s' M hM
     simp only [pop, St.eval, constSlot, upd_at, Nat.reduceEqDiff, if_true, if_false, popLoad, loadK, isAggD, List.drop_zero, List.getElem?_toArray, List.getElem?_cons_zero, List.getElem?_cons_succ, Bool.false_eq_true, Tryd.underlying9, sz9, eq_self, true_and, and_true, e0_1, e0_5, e0_6, e0_7, e0_25, e0_26, e0_27, dealPV, s'.1]
     exact hM _ (.refl _)
    apply lex_to
    · rfl
    ·intro h' s' M hM
     simp only [pop, St.eval, constSlot, upd_at, Nat.reduceEqDiff, if_true, if_false, popBuildSlice, slotCells, List.toList_toArray, List.map_cons, List.map_nil, List.mapM_cons, List.mapM_nil, Option.bind_eq_bind, Option.bind_some, Option.pure_def, Tryd.underlying24, sz9, ze9, by9, eq_self, true_and, and_true, str_list, str_size, str_app, str_cut, str_get, e0_1, e0_5, e0_6, e0_7, e0_25, e0_26, e0_27, dealPV, s'.1]
     exact ⟨by decide, by decide, rfl, rfl, by simp, by decide, rfl, hM _ (.refl _)⟩
    apply lex_to
    · rfl
    ·intro h' s' M hM
     simp only [pop, St.eval, constSlot, upd_at, Nat.reduceEqDiff, if_true, if_false, eq_self, true_and, and_true, str_list, str_size, str_app, str_cut, str_get, e0_1, e0_5, e0_6, e0_7, e0_25, e0_26, e0_27, dealPV, s'.1]
     exact hM _ (.refl _)
    refine lex_done fun hq sq => ?_
    replace sq := Same.trans sv26 sq
    refine pops_done (hR28 _ ?_)
    clear hR28 R28
    try simp only [thenK, scopeK]
    refine hN27 _ ?_
    clear hN27 N27
    refine pwp_then fun N29 hN29 => ?_
    refine pwp_then fun N30 hN30 => ?_
    refine pwp_reg fun R31 hR31 => ?_
    refine pops_to rfl fun M hM => ?_
    simp only [pop, St.eval, constSlot, upd_at, Nat.reduceEqDiff, if_true, if_false, popFieldAddr, fieldOf, List.drop_succ_cons, List.drop_zero, List.getElem?_toArray, List.getElem?_cons_zero, List.getElem?_cons_succ, Tryd.underlying35, sz3, e0_1, e0_5, e0_6, e0_7, e0_25, e0_26, e0_27, dealPV]
    refine ⟨⟨_, rfl⟩, hM _ _ ?_⟩
    clear hM M
    refine pops_to rfl fun M hM => ?_
    simp only [pop, St.eval, constSlot, upd_at, Nat.reduceEqDiff, if_true, if_false, popLoad, loadK, isAggD, List.drop_zero, List.getElem?_toArray, List.getElem?_cons_zero, List.getElem?_cons_succ, Bool.false_eq_true, Tryd.underlying3, sz3, eq_self, true_and, and_true, e0_1, e0_5, e0_6, e0_7, e0_25, e0_26, e0_27, dealPV]
    refine hM _ _ ?_
    clear hM M
    refine pops_to rfl fun M hM => ?_
    simp only [pop, St.eval, constSlot, upd_at, Nat.reduceEqDiff, if_true, if_false, popBin, binK, intK, strK, eqK, Tryd.underlying3, isPtr, eq_self, true_and, and_true, e0_1, e0_5, e0_6, e0_7, e0_25, e0_26, e0_27, dealPV]
    refine hM _ _ ?_
    clear hM M
    refine pops_done (hR31 _ ?_)
    clear hR31 R31
    try simp only [thenK, scopeK]
    refine hN30 _ ?_
    clear hN30 N30
    refine pwp_cond (by simp only [St.eval, upd_at, Nat.reduceEqDiff, if_true, if_false, e0_1, e0_5, e0_6, e0_7, e0_25, e0_26, e0_27, dealPV] <;> rfl) (fun c44 => ?_) (fun c44 => ?_)
    ·skip
     have hk : x.kind = 1 := by simpa using c44
     refine pwp_dreg 8 mixed (by decide +kernel) fun R32 hR32 => ?_
     simp only [List.take_succ_cons, List.take_zero, List.drop_succ_cons, List.drop_zero]
     apply lex_to
     · rfl
     ·intro h' s' M hM
      simp only [pop, St.eval, constSlot, upd_at, Nat.reduceEqDiff, if_true, if_false, eq_self, true_and, and_true, str_list, str_size, str_app, str_cut, str_get, e0_1, e0_5, e0_6, e0_7, e0_25, e0_26, e0_27, dealPV, s'.1]
      exact hM _ (.refl _)
     apply lex_to
     · rfl
     ·intro h' s' M hM
      simp only [pop, St.eval, constSlot, upd_at, Nat.reduceEqDiff, if_true, if_false, popFieldAddr, fieldOf, List.drop_succ_cons, List.drop_zero, List.getElem?_toArray, List.getElem?_cons_zero, List.getElem?_cons_succ, Tryd.underlying35, sz3, e0_1, e0_5, e0_6, e0_7, e0_25, e0_26, e0_27, dealPV, s'.1]
      exact ⟨⟨_, rfl⟩, hM _ (.refl _)⟩
     apply lex_to
     · rfl
     ·intro h' s' M hM
      simp only [pop, St.eval, constSlot, upd_at, Nat.reduceEqDiff, if_true, if_false, popLoad, loadK, isAggD, List.drop_zero, List.getElem?_toArray, List.getElem?_cons_zero, List.getElem?_cons_succ, Bool.false_eq_true, Tryd.underlying3, sz3, eq_self, true_and, and_true, e0_1, e0_5, e0_6, e0_7, e0_25, e0_26, e0_27, dealPV, s'.1]
      exact hM _ (.refl _)
     apply lex_to
     · rfl
     ·intro h' s' M hM
      simp only [pop, St.eval, constSlot, upd_at, Nat.reduceEqDiff, if_true, if_false, popCall, List.toList_toArray, List.map_cons, List.map_nil, svs, List.mapM_cons, List.mapM_nil, Option.bind_eq_bind, Option.bind_some, Option.pure_def, List.append_nil, List.cons_append, List.nil_append, str_size, e0_1, e0_5, e0_6, e0_7, e0_25, e0_26, e0_27, dealPV, s'.1]
      refine PFun.use (itoa_fun W0 hp x.size xi1) fun hp s => hM _ s
     apply lex_to
     · rfl
     ·intro h' s' M hM
      simp only [pop, St.eval, constSlot, upd_at, Nat.reduceEqDiff, if_true, if_false, popFieldAddr, fieldOf, List.drop_succ_cons, List.drop_zero, List.getElem?_toArray, List.getElem?_cons_zero, List.getElem?_cons_succ, Tryd.underlying35, sz3, e0_1, e0_5, e0_6, e0_7, e0_25, e0_26, e0_27, dealPV, s'.1]
      exact ⟨⟨_, rfl⟩, hM _ (.refl _)⟩
     apply lex_to
     · rfl
     ·intro h' s' M hM
      simp only [pop, St.eval, constSlot, upd_at, Nat.reduceEqDiff, if_true, if_false, popLoad, loadK, isAggD, List.drop_zero, List.getElem?_toArray, List.getElem?_cons_zero, List.getElem?_cons_succ, Bool.false_eq_true, Tryd.underlying3, sz3, eq_self, true_and, and_true, e0_1, e0_5, e0_6, e0_7, e0_25, e0_26, e0_27, dealPV, s'.1]
      exact hM _ (.refl _)
     apply lex_to
     · rfl
     ·intro h' s' M hM
      simp only [pop, St.eval, constSlot, upd_at, Nat.reduceEqDiff, if_true, if_false, popCall, List.toList_toArray, List.map_cons, List.map_nil, svs, List.mapM_cons, List.mapM_nil, Option.bind_eq_bind, Option.bind_some, Option.pure_def, List.append_nil, List.cons_append, List.nil_append, str_size, e0_1, e0_5, e0_6, e0_7, e0_25, e0_26, e0_27, dealPV, s'.1]
      refine PFun.use (itoa_fun W0 hp x.time xi2) fun hp s => hM _ s
     apply lex_to
     · rfl
     ·intro h' s' M hM
      simp only [pop, St.eval, constSlot, upd_at, Nat.reduceEqDiff, if_true, if_false, popBuildSlice, slotCells, List.toList_toArray, List.map_cons, List.map_nil, List.mapM_cons, List.mapM_nil, Option.bind_eq_bind, Option.bind_some, Option.pure_def, Tryd.underlying24, sz9, ze9, by9, eq_self, true_and, and_true, str_list, str_size, str_app, str_cut, str_get, e0_1, e0_5, e0_6, e0_7, e0_25, e0_26, e0_27, dealPV, s'.1]
      exact ⟨by decide, by decide, rfl, rfl, by simp, by decide, rfl, hM _ (.refl _)⟩
     refine lex_done fun hq2 sq2 => ?_
     replace sq2 := Same.trans sq sq2
     refine pops_to rfl fun M hM => ?_
     simp only [pop, St.eval, constSlot, upd_at, Nat.reduceEqDiff, if_true, if_false, popCall, List.toList_toArray, List.map_cons, List.map_nil, popBuiltin, eq_self, true_and, and_true, str_list, str_size, str_app, str_cut, str_get, e0_1, e0_5, e0_6, e0_7, e0_25, e0_26, e0_27, dealPV]
     refine rowL_app (xs := pstrs [wordK x.kind, sideK x.side]) (ys := pstrs [Lib.itoa x.size, Lib.itoa x.time]) hok0 Tryd.underlying24 sz9 by9 ze9 rfl (by decide) (.inl rfl) (Same.keeps sq2) (by simp) rfl (.inr rfl) ⟨by simp, by simp⟩ fun sl1 hp1 ho1 hk1 => hM _ _ ?_
     clear hM M
     refine pops_mv (.inr rfl) rfl (by simp only [St.eval, upd_at, Nat.reduceEqDiff, if_true, if_false, e0_1, e0_5, e0_6, e0_7, e0_25, e0_26, e0_27, dealPV] <;> rfl) ?_
     refine pops_done (hR32 _ ?_)
     clear hR32 R32
     try simp only [thenK, scopeK]
     refine hN29 _ ?_
     clear hN29 N29
     refine pwp_then fun N33 hN33 => ?_
     refine pwp_reg fun R34 hR34 => ?_
     refine pops_mv (.inl rfl) rfl (by simp only [St.eval, upd_at, Nat.reduceEqDiff, if_true, if_false, e0_1, e0_5, e0_6, e0_7, e0_25, e0_26, e0_27, dealPV] <;> rfl) ?_
     refine pops_to rfl fun M hM => ?_
     simp only [pop, St.eval, constSlot, upd_at, Nat.reduceEqDiff, if_true, if_false, popFieldAddr, fieldOf, List.drop_succ_cons, List.drop_zero, List.getElem?_toArray, List.getElem?_cons_zero, List.getElem?_cons_succ, Tryd.underlying35, sz9, e0_1, e0_5, e0_6, e0_7, e0_25, e0_26, e0_27, dealPV]
     refine ⟨⟨_, rfl⟩, hM _ _ ?_⟩
     clear hM M
     refine pops_to rfl fun M hM => ?_
     simp only [pop, St.eval, constSlot, upd_at, Nat.reduceEqDiff, if_true, if_false, popLoad, loadK, isAggD, List.drop_zero, List.getElem?_toArray, List.getElem?_cons_zero, List.getElem?_cons_succ, Bool.false_eq_true, Tryd.underlying9, sz9, eq_self, true_and, and_true, e0_1, e0_5, e0_6, e0_7, e0_25, e0_26, e0_27, dealPV]
     refine hM _ _ ?_
     clear hM M
     refine pops_to rfl fun M hM => ?_
     simp only [pop, St.eval, constSlot, upd_at, Nat.reduceEqDiff, if_true, if_false, popCall, List.toList_toArray, List.map_cons, List.map_nil, svs, List.mapM_cons, List.mapM_nil, Option.bind_eq_bind, Option.bind_some, Option.pure_def, List.append_nil, List.cons_append, List.nil_append, str_size, e0_1, e0_5, e0_6, e0_7, e0_25, e0_26, e0_27, dealPV]
     refine PFun.use (quote_fun W0 x.src (by omega)) fun h2 s2 => hM _ _ ?_
     replace s2 := Same.trans (Same.refl _) s2
     clear hM M
     refine pops_to rfl fun M hM => ?_
     simp only [pop, St.eval, constSlot, upd_at, Nat.reduceEqDiff, if_true, if_false, popBuildSlice, slotCells, List.toList_toArray, List.map_cons, List.map_nil, List.mapM_cons, List.mapM_nil, Option.bind_eq_bind, Option.bind_some, Option.pure_def, Tryd.underlying24, sz9, ze9, by9, eq_self, true_and, and_true, str_list, str_size, str_app, str_cut, str_get, e0_1, e0_5, e0_6, e0_7, e0_25, e0_26, e0_27, dealPV]
     refine ⟨by decide, by decide, rfl, rfl, by simp, by decide, rfl, hM _ _ ?_⟩
     clear hM M
     refine pops_to rfl fun M hM => ?_
     simp only [pop, St.eval, constSlot, upd_at, Nat.reduceEqDiff, if_true, if_false, popCall, List.toList_toArray, List.map_cons, List.map_nil, popBuiltin, eq_self, true_and, and_true, str_list, str_size, str_app, str_cut, str_get, e0_1, e0_5, e0_6, e0_7, e0_25, e0_26, e0_27, dealPV]
     first
       | refine rowL_app (xs := _) (ys := pstrs [quoteB x.src]) hok0 Tryd.underlying24 sz9 by9 ze9 rfl (by decide) (.inr (ho1.same s2)) (hk1.trans (Same.keeps s2)) (by simp) rfl (.inr rfl) ⟨by simp, by simp⟩ fun sl2 hp2 ho2 hk2 => hM _ _ ?_
       | refine rowL_app (xs := pstrs [wordK x.kind, sideK x.side]) (ys := pstrs [quoteB x.src]) hok0 Tryd.underlying24 sz9 by9 ze9 rfl (by decide) (.inl rfl) (Same.keeps s2) (by simp) rfl (.inr rfl) ⟨by simp, by simp⟩ fun sl2 hp2 ho2 hk2 => hM _ _ ?_
     clear hM M
     refine pops_mv (.inr rfl) rfl (by simp only [St.eval, upd_at, Nat.reduceEqDiff, if_true, if_false, e0_1, e0_5, e0_6, e0_7, e0_25, e0_26, e0_27, dealPV] <;> rfl) ?_
     refine pops_done (hR34 _ ?_)
     clear hR34 R34
     try simp only [thenK, scopeK]
     refine hN33 _ ?_
     clear hN33 N33
     refine pwp_then fun N35 hN35 => ?_
     refine pwp_then fun N36 hN36 => ?_
     refine pwp_reg fun R37 hR37 => ?_
     refine pops_to rfl fun M hM => ?_
     simp only [pop, St.eval, constSlot, upd_at, Nat.reduceEqDiff, if_true, if_false, popFieldAddr, fieldOf, List.drop_succ_cons, List.drop_zero, List.getElem?_toArray, List.getElem?_cons_zero, List.getElem?_cons_succ, Tryd.underlying35, sz9, e0_1, e0_5, e0_6, e0_7, e0_25, e0_26, e0_27, dealPV]
     refine ⟨⟨_, rfl⟩, hM _ _ ?_⟩
     clear hM M
     refine pops_to rfl fun M hM => ?_
     simp only [pop, St.eval, constSlot, upd_at, Nat.reduceEqDiff, if_true, if_false, popLoad, loadK, isAggD, List.drop_zero, List.getElem?_toArray, List.getElem?_cons_zero, List.getElem?_cons_succ, Bool.false_eq_true, Tryd.underlying9, sz9, eq_self, true_and, and_true, e0_1, e0_5, e0_6, e0_7, e0_25, e0_26, e0_27, dealPV]
     refine hM _ _ ?_
     clear hM M
     refine pops_to rfl fun M hM => ?_
     simp only [pop, St.eval, constSlot, upd_at, Nat.reduceEqDiff, if_true, if_false, popBin, binK, intK, strK, eqK, Tryd.underlying9, isPtr, eq_self, true_and, and_true, str_list, str_size, str_app, str_cut, str_get, e0_1, e0_5, e0_6, e0_7, e0_25, e0_26, e0_27, dealPV]
     refine hM _ _ ?_
     clear hM M
     refine pops_done (hR37 _ ?_)
     clear hR37 R37
     try simp only [thenK, scopeK]
     refine hN36 _ ?_
     clear hN36 N36
     refine pwp_cond (by simp only [St.eval, upd_at, Nat.reduceEqDiff, if_true, if_false, e0_1, e0_5, e0_6, e0_7, e0_25, e0_26, e0_27, dealPV] <;> rfl) (fun c62 => ?_) (fun c62 => ?_)
     ·skip
      have hd : ¬ x.dst = [] := by simpa using c62
      first
        | have hw := actW_put2 hk hd
        | have hw := actW_no2 hk hd
      refine pwp_reg fun R38 hR38 => ?_
      refine pops_mv (.inl rfl) rfl (by simp only [St.eval, upd_at, Nat.reduceEqDiff, if_true, if_false, e0_1, e0_5, e0_6, e0_7, e0_25, e0_26, e0_27, dealPV] <;> rfl) ?_
      refine pops_to rfl fun M hM => ?_
      simp only [pop, St.eval, constSlot, upd_at, Nat.reduceEqDiff, if_true, if_false, popFieldAddr, fieldOf, List.drop_succ_cons, List.drop_zero, List.getElem?_toArray, List.getElem?_cons_zero, List.getElem?_cons_succ, Tryd.underlying35, sz9, e0_1, e0_5, e0_6, e0_7, e0_25, e0_26, e0_27, dealPV]
      refine ⟨⟨_, rfl⟩, hM _ _ ?_⟩
      clear hM M
      refine pops_to rfl fun M hM => ?_
      simp only [pop, St.eval, constSlot, upd_at, Nat.reduceEqDiff, if_true, if_false, popLoad, loadK, isAggD, List.drop_zero, List.getElem?_toArray, List.getElem?_cons_zero, List.getElem?_cons_succ, Bool.false_eq_true, Tryd.underlying9, sz9, eq_self, true_and, and_true, e0_1, e0_5, e0_6, e0_7, e0_25, e0_26, e0_27, dealPV]
      refine hM _ _ ?_
      clear hM M
      refine pops_to rfl fun M hM => ?_
      simp only [pop, St.eval, constSlot, upd_at, Nat.reduceEqDiff, if_true, if_false, popCall, List.toList_toArray, List.map_cons, List.map_nil, svs, List.mapM_cons, List.mapM_nil, Option.bind_eq_bind, Option.bind_some, Option.pure_def, List.append_nil, List.cons_append, List.nil_append, str_size, e0_1, e0_5, e0_6, e0_7, e0_25, e0_26, e0_27, dealPV]
      refine PFun.use (quote_fun W0 x.dst (by omega)) fun h3 s3 => hM _ _ ?_
      replace s3 := Same.trans (Same.refl _) s3
      clear hM M
      refine pops_to rfl fun M hM => ?_
      simp only [pop, St.eval, constSlot, upd_at, Nat.reduceEqDiff, if_true, if_false, popBuildSlice, slotCells, List.toList_toArray, List.map_cons, List.map_nil, List.mapM_cons, List.mapM_nil, Option.bind_eq_bind, Option.bind_some, Option.pure_def, Tryd.underlying24, sz9, ze9, by9, eq_self, true_and, and_true, str_list, str_size, str_app, str_cut, str_get, e0_1, e0_5, e0_6, e0_7, e0_25, e0_26, e0_27, dealPV]
      refine ⟨by decide, by decide, rfl, rfl, by simp, by decide, rfl, hM _ _ ?_⟩
      clear hM M
      refine pops_to rfl fun M hM => ?_
      simp only [pop, St.eval, constSlot, upd_at, Nat.reduceEqDiff, if_true, if_false, popCall, List.toList_toArray, List.map_cons, List.map_nil, popBuiltin, eq_self, true_and, and_true, str_list, str_size, str_app, str_cut, str_get, e0_1, e0_5, e0_6, e0_7, e0_25, e0_26, e0_27, dealPV]
      refine rowL_app (xs := _) (ys := pstrs [quoteB x.dst]) hok0 Tryd.underlying24 sz9 by9 ze9 rfl (by decide) (.inr (ho2.same s3)) (hk2.trans (Same.keeps s3)) (by simp) rfl (.inr rfl) ⟨by simp, by simp⟩ fun sl3 hp3 ho3 hk3 => hM _ _ ?_
      clear hM M
      refine pops_mv (.inr rfl) rfl (by simp only [St.eval, upd_at, Nat.reduceEqDiff, if_true, if_false, e0_1, e0_5, e0_6, e0_7, e0_25, e0_26, e0_27, dealPV] <;> rfl) ?_
      refine pops_done (hR38 _ ?_)
      clear hR38 R38
      try simp only [thenK, scopeK]
      refine hN35 _ ?_
      clear hN35 N35
      first
        | (replace ho3 : RowIs 9 1 hp0 hp3 sl3 (pstrs (actW x)) := by rw [hw]; exact ho3
           refine pwp_freezeRow (sl := sl3) 10 (by simp only [upd_at, Nat.reduceEqDiff, if_true, if_false]) ho3 hok0 hk3 fun hp9 hk9 => ?_)
        | (replace ho2 : RowIs 9 1 hp0 hp2 sl2 (pstrs (actW x)) := by rw [hw]; exact ho2
           refine pwp_freezeRow (sl := sl2) 10 (by simp only [upd_at, Nat.reduceEqDiff, if_true, if_false]) ho2 hok0 hk2 fun hp9 hk9 => ?_)
      refine pwp_reg fun R39 hR39 => ?_
      refine pops_mv (.inl rfl) rfl (by simp only [St.eval, upd_at, Nat.reduceEqDiff, if_true, if_false, e0_1, e0_5, e0_6, e0_7, e0_25, e0_26, e0_27, dealPV] <;> rfl) ?_
      refine pops_mv (.inl rfl) rfl (by simp only [St.eval, upd_at, Nat.reduceEqDiff, if_true, if_false, e0_1, e0_5, e0_6, e0_7, e0_25, e0_26, e0_27, dealPV] <;> rfl) ?_
      refine pops_to rfl fun M hM => ?_
      simp only [pop, St.eval, constSlot, upd_at, Nat.reduceEqDiff, if_true, if_false, popCall, List.toList_toArray, List.map_cons, List.map_nil, svs, List.mapM_cons, List.mapM_nil, Option.bind_eq_bind, Option.bind_some, Option.pure_def, List.append_nil, List.cons_append, List.nil_append, str_size, e0_1, e0_5, e0_6, e0_7, e0_25, e0_26, e0_27, dealPV]
      refine (line_fun W0 h id (actT d i) false (actW x) hb (by rw [hw]; simp) (Nat.le_trans hL (by decide)) (by omega) _ (hB.keeps hk9)).mono ?_
      rintro _ h9 ⟨rfl, hB9⟩
      refine hM _ _ ?_
      clear hM M
      refine pops_done (hR39 _ ?_)
      clear hR39 R39
      try simp only [blockK, thenK, scopeK]
      try simp only [thenK, scopeK]
      refine hN23 _ ?_
      clear hN23 N23
      refine pwp_reg fun R40 hR40 => ?_
      refine pops_to rfl fun M hM => ?_
      simp only [pop, St.eval, constSlot, upd_at, Nat.reduceEqDiff, if_true, if_false, popBin, binK, intK, strK, eqK, eq_self, true_and, and_true, e0_1, e0_5, e0_6, e0_7, e0_25, e0_26, e0_27, dealPV]
      refine hM _ _ ?_
      clear hM M
      refine pops_mv (.inl rfl) rfl (by simp only [St.eval, upd_at, Nat.reduceEqDiff, if_true, if_false, e0_1, e0_5, e0_6, e0_7, e0_25, e0_26, e0_27, dealPV] <;> rfl) ?_
      refine pops_done (hR40 _ ?_)
      clear hR40 R40
      try simp only [thenK, scopeK]
      exact ⟨_, by omega, _, .refl _ _, i + 1, rfl, by omega, by rw [actT_step hx]; exact hB9, by simp only [upd_at, Nat.reduceEqDiff, if_true, if_false, e0_1, e0_5, e0_6, e0_7, e0_25, e0_26, e0_27, dealPV], by simp only [upd_at, Nat.reduceEqDiff, if_true, if_false, e0_1, e0_5, e0_6, e0_7, e0_25, e0_26, e0_27, dealPV], by simp only [upd_at, Nat.reduceEqDiff, if_true, if_false, e0_1, e0_5, e0_6, e0_7, e0_25, e0_26, e0_27, dealPV], by simp only [upd_at, Nat.reduceEqDiff, if_true, if_false, e0_1, e0_5, e0_6, e0_7, e0_25, e0_26, e0_27, dealPV], by simp only [upd_at, Nat.reduceEqDiff, if_true, if_false, e0_1, e0_5, e0_6, e0_7, e0_25, e0_26, e0_27, dealPV], by simp only [upd_at, Nat.reduceEqDiff, if_true, if_false, e0_1, e0_5, e0_6, e0_7, e0_25, e0_26, e0_27, dealPV], by simp only [upd_at, Nat.reduceEqDiff, if_true, if_false, e0_27]; rw [wrap_succ (by omega)]⟩
     ·skip
      have hd : x.dst = [] := by simpa using c62
      first
        | have hw := actW_put hk hd
        | have hw := actW_no hk hd
      refine pwp_skip ?_
      try simp only [thenK, scopeK]
      refine hN35 _ ?_
      clear hN35 N35
      first
        | (replace ho3 : RowIs 9 1 hp0 hp3 sl3 (pstrs (actW x)) := by rw [hw]; exact ho3
           refine pwp_freezeRow (sl := sl3) 10 (by simp only [upd_at, Nat.reduceEqDiff, if_true, if_false]) ho3 hok0 hk3 fun hp9 hk9 => ?_)
        | (replace ho2 : RowIs 9 1 hp0 hp2 sl2 (pstrs (actW x)) := by rw [hw]; exact ho2
           refine pwp_freezeRow (sl := sl2) 10 (by simp only [upd_at, Nat.reduceEqDiff, if_true, if_false]) ho2 hok0 hk2 fun hp9 hk9 => ?_)
      refine pwp_reg fun R41 hR41 => ?_
      refine pops_mv (.inl rfl) rfl (by simp only [St.eval, upd_at, Nat.reduceEqDiff, if_true, if_false, e0_1, e0_5, e0_6, e0_7, e0_25, e0_26, e0_27, dealPV] <;> rfl) ?_
      refine pops_mv (.inl rfl) rfl (by simp only [St.eval, upd_at, Nat.reduceEqDiff, if_true, if_false, e0_1, e0_5, e0_6, e0_7, e0_25, e0_26, e0_27, dealPV] <;> rfl) ?_
      refine pops_to rfl fun M hM => ?_
      simp only [pop, St.eval, constSlot, upd_at, Nat.reduceEqDiff, if_true, if_false, popCall, List.toList_toArray, List.map_cons, List.map_nil, svs, List.mapM_cons, List.mapM_nil, Option.bind_eq_bind, Option.bind_some, Option.pure_def, List.append_nil, List.cons_append, List.nil_append, str_size, e0_1, e0_5, e0_6, e0_7, e0_25, e0_26, e0_27, dealPV]
      refine (line_fun W0 h id (actT d i) false (actW x) hb (by rw [hw]; simp) (Nat.le_trans hL (by decide)) (by omega) _ (hB.keeps hk9)).mono ?_
      rintro _ h9 ⟨rfl, hB9⟩
      refine hM _ _ ?_
      clear hM M
      refine pops_done (hR41 _ ?_)
      clear hR41 R41
      try simp only [blockK, thenK, scopeK]
      try simp only [thenK, scopeK]
      refine hN23 _ ?_
      clear hN23 N23
      refine pwp_reg fun R42 hR42 => ?_
      refine pops_to rfl fun M hM => ?_
      simp only [pop, St.eval, constSlot, upd_at, Nat.reduceEqDiff, if_true, if_false, popBin, binK, intK, strK, eqK, eq_self, true_and, and_true, e0_1, e0_5, e0_6, e0_7, e0_25, e0_26, e0_27, dealPV]
      refine hM _ _ ?_
      clear hM M
      refine pops_mv (.inl rfl) rfl (by simp only [St.eval, upd_at, Nat.reduceEqDiff, if_true, if_false, e0_1, e0_5, e0_6, e0_7, e0_25, e0_26, e0_27, dealPV] <;> rfl) ?_
      refine pops_done (hR42 _ ?_)
      clear hR42 R42
      try simp only [thenK, scopeK]
      exact ⟨_, by omega, _, .refl _ _, i + 1, rfl, by omega, by rw [actT_step hx]; exact hB9, by simp only [upd_at, Nat.reduceEqDiff, if_true, if_false, e0_1, e0_5, e0_6, e0_7, e0_25, e0_26, e0_27, dealPV], by simp only [upd_at, Nat.reduceEqDiff, if_true, if_false, e0_1, e0_5, e0_6, e0_7, e0_25, e0_26, e0_27, dealPV], by simp only [upd_at, Nat.reduceEqDiff, if_true, if_false, e0_1, e0_5, e0_6, e0_7, e0_25, e0_26, e0_27, dealPV], by simp only [upd_at, Nat.reduceEqDiff, if_true, if_false, e0_1, e0_5, e0_6, e0_7, e0_25, e0_26, e0_27, dealPV], by simp only [upd_at, Nat.reduceEqDiff, if_true, if_false, e0_1, e0_5, e0_6, e0_7, e0_25, e0_26, e0_27, dealPV], by simp only [upd_at, Nat.reduceEqDiff, if_true, if_false, e0_1, e0_5, e0_6, e0_7, e0_25, e0_26, e0_27, dealPV], by simp only [upd_at, Nat.reduceEqDiff, if_true, if_false, e0_27]; rw [wrap_succ (by omega)]⟩
    ·skip
     have hk : ¬ x.kind = 1 := by simpa using c44
     refine pwp_skip ?_
     try simp only [thenK, scopeK]
     refine hN29 _ ?_
     clear hN29 N29
     refine pwp_then fun N43 hN43 => ?_
     refine pwp_reg fun R44 hR44 => ?_
     refine pops_mv (.inl rfl) rfl (by simp only [St.eval, upd_at, Nat.reduceEqDiff, if_true, if_false, e0_1, e0_5, e0_6, e0_7, e0_25, e0_26, e0_27, dealPV] <;> rfl) ?_
     refine pops_to rfl fun M hM => ?_
     simp only [pop, St.eval, constSlot, upd_at, Nat.reduceEqDiff, if_true, if_false, popFieldAddr, fieldOf, List.drop_succ_cons, List.drop_zero, List.getElem?_toArray, List.getElem?_cons_zero, List.getElem?_cons_succ, Tryd.underlying35, sz9, e0_1, e0_5, e0_6, e0_7, e0_25, e0_26, e0_27, dealPV]
     refine ⟨⟨_, rfl⟩, hM _ _ ?_⟩
     clear hM M
     refine pops_to rfl fun M hM => ?_
     simp only [pop, St.eval, constSlot, upd_at, Nat.reduceEqDiff, if_true, if_false, popLoad, loadK, isAggD, List.drop_zero, List.getElem?_toArray, List.getElem?_cons_zero, List.getElem?_cons_succ, Bool.false_eq_true, Tryd.underlying9, sz9, eq_self, true_and, and_true, e0_1, e0_5, e0_6, e0_7, e0_25, e0_26, e0_27, dealPV]
     refine hM _ _ ?_
     clear hM M
     refine pops_to rfl fun M hM => ?_
     simp only [pop, St.eval, constSlot, upd_at, Nat.reduceEqDiff, if_true, if_false, popCall, List.toList_toArray, List.map_cons, List.map_nil, svs, List.mapM_cons, List.mapM_nil, Option.bind_eq_bind, Option.bind_some, Option.pure_def, List.append_nil, List.cons_append, List.nil_append, str_size, e0_1, e0_5, e0_6, e0_7, e0_25, e0_26, e0_27, dealPV]
     refine PFun.use (quote_fun W0 x.src (by omega)) fun h4 s4 => hM _ _ ?_
     replace s4 := Same.trans sq s4
     clear hM M
     refine pops_to rfl fun M hM => ?_
     simp only [pop, St.eval, constSlot, upd_at, Nat.reduceEqDiff, if_true, if_false, popBuildSlice, slotCells, List.toList_toArray, List.map_cons, List.map_nil, List.mapM_cons, List.mapM_nil, Option.bind_eq_bind, Option.bind_some, Option.pure_def, Tryd.underlying24, sz9, ze9, by9, eq_self, true_and, and_true, str_list, str_size, str_app, str_cut, str_get, e0_1, e0_5, e0_6, e0_7, e0_25, e0_26, e0_27, dealPV]
     refine ⟨by decide, by decide, rfl, rfl, by simp, by decide, rfl, hM _ _ ?_⟩
     clear hM M
     refine pops_to rfl fun M hM => ?_
     simp only [pop, St.eval, constSlot, upd_at, Nat.reduceEqDiff, if_true, if_false, popCall, List.toList_toArray, List.map_cons, List.map_nil, popBuiltin, eq_self, true_and, and_true, str_list, str_size, str_app, str_cut, str_get, e0_1, e0_5, e0_6, e0_7, e0_25, e0_26, e0_27, dealPV]
     first
       | refine rowL_app (xs := _) (ys := pstrs [quoteB x.src]) hok0 Tryd.underlying24 sz9 by9 ze9 rfl (by decide) (.inr (ho1.same s4)) (hk1.trans (Same.keeps s4)) (by simp) rfl (.inr rfl) ⟨by simp, by simp⟩ fun sl2 hp2 ho2 hk2 => hM _ _ ?_
       | refine rowL_app (xs := pstrs [wordK x.kind, sideK x.side]) (ys := pstrs [quoteB x.src]) hok0 Tryd.underlying24 sz9 by9 ze9 rfl (by decide) (.inl rfl) (Same.keeps s4) (by simp) rfl (.inr rfl) ⟨by simp, by simp⟩ fun sl2 hp2 ho2 hk2 => hM _ _ ?_
     clear hM M
     refine pops_mv (.inr rfl) rfl (by simp only [St.eval, upd_at, Nat.reduceEqDiff, if_true, if_false, e0_1, e0_5, e0_6, e0_7, e0_25, e0_26, e0_27, dealPV] <;> rfl) ?_
     refine pops_done (hR44 _ ?_)
     clear hR44 R44
     try simp only [thenK, scopeK]
     refine hN43 _ ?_
     clear hN43 N43
     refine pwp_then fun N45 hN45 => ?_
     refine pwp_then fun N46 hN46 => ?_
     refine pwp_reg fun R47 hR47 => ?_
     refine pops_to rfl fun M hM => ?_
     simp only [pop, St.eval, constSlot, upd_at, Nat.reduceEqDiff, if_true, if_false, popFieldAddr, fieldOf, List.drop_succ_cons, List.drop_zero, List.getElem?_toArray, List.getElem?_cons_zero, List.getElem?_cons_succ, Tryd.underlying35, sz9, e0_1, e0_5, e0_6, e0_7, e0_25, e0_26, e0_27, dealPV]
     refine ⟨⟨_, rfl⟩, hM _ _ ?_⟩
     clear hM M
     refine pops_to rfl fun M hM => ?_
     simp only [pop, St.eval, constSlot, upd_at, Nat.reduceEqDiff, if_true, if_false, popLoad, loadK, isAggD, List.drop_zero, List.getElem?_toArray, List.getElem?_cons_zero, List.getElem?_cons_succ, Bool.false_eq_true, Tryd.underlying9, sz9, eq_self, true_and, and_true, e0_1, e0_5, e0_6, e0_7, e0_25, e0_26, e0_27, dealPV]
     refine hM _ _ ?_
     clear hM M
     refine pops_to rfl fun M hM => ?_
     simp only [pop, St.eval, constSlot, upd_at, Nat.reduceEqDiff, if_true, if_false, popBin, binK, intK, strK, eqK, Tryd.underlying9, isPtr, eq_self, true_and, and_true, str_list, str_size, str_app, str_cut, str_get, e0_1, e0_5, e0_6, e0_7, e0_25, e0_26, e0_27, dealPV]
     refine hM _ _ ?_
     clear hM M
     refine pops_done (hR47 _ ?_)
     clear hR47 R47
     try simp only [thenK, scopeK]
     refine hN46 _ ?_
     clear hN46 N46
     refine pwp_cond (by simp only [St.eval, upd_at, Nat.reduceEqDiff, if_true, if_false, e0_1, e0_5, e0_6, e0_7, e0_25, e0_26, e0_27, dealPV] <;> rfl) (fun c62 => ?_) (fun c62 => ?_)
     ·skip
      have hd : ¬ x.dst = [] := by simpa using c62
      first
        | have hw := actW_put2 hk hd
        | have hw := actW_no2 hk hd
      refine pwp_reg fun R48 hR48 => ?_
      refine pops_mv (.inl rfl) rfl (by simp only [St.eval, upd_at, Nat.reduceEqDiff, if_true, if_false, e0_1, e0_5, e0_6, e0_7, e0_25, e0_26, e0_27, dealPV] <;> rfl) ?_
      refine pops_to rfl fun M hM => ?_
      simp only [pop, St.eval, constSlot, upd_at, Nat.reduceEqDiff, if_true, if_false, popFieldAddr, fieldOf, List.drop_succ_cons, List.drop_zero, List.getElem?_toArray, List.getElem?_cons_zero, List.getElem?_cons_succ, Tryd.underlying35, sz9, e0_1, e0_5, e0_6, e0_7, e0_25, e0_26, e0_27, dealPV]
      refine ⟨⟨_, rfl⟩, hM _ _ ?_⟩
      clear hM M
      refine pops_to rfl fun M hM => ?_
      simp only [pop, St.eval, constSlot, upd_at, Nat.reduceEqDiff, if_true, if_false, popLoad, loadK, isAggD, List.drop_zero, List.getElem?_toArray, List.getElem?_cons_zero, List.getElem?_cons_succ, Bool.false_eq_true, Tryd.underlying9, sz9, eq_self, true_and, and_true, e0_1, e0_5, e0_6, e0_7, e0_25, e0_26, e0_27, dealPV]
      refine hM _ _ ?_
      clear hM M
      refine pops_to rfl fun M hM => ?_
      simp only [pop, St.eval, constSlot, upd_at, Nat.reduceEqDiff, if_true, if_false, popCall, List.toList_toArray, List.map_cons, List.map_nil, svs, List.mapM_cons, List.mapM_nil, Option.bind_eq_bind, Option.bind_some, Option.pure_def, List.append_nil, List.cons_append, List.nil_append, str_size, e0_1, e0_5, e0_6, e0_7, e0_25, e0_26, e0_27, dealPV]
      refine PFun.use (quote_fun W0 x.dst (by omega)) fun h5 s5 => hM _ _ ?_
      replace s5 := Same.trans (Same.refl _) s5
      clear hM M
      refine pops_to rfl fun M hM => ?_
      simp only [pop, St.eval, constSlot, upd_at, Nat.reduceEqDiff, if_true, if_false, popBuildSlice, slotCells, List.toList_toArray, List.map_cons, List.map_nil, List.mapM_cons, List.mapM_nil, Option.bind_eq_bind, Option.bind_some, Option.pure_def, Tryd.underlying24, sz9, ze9, by9, eq_self, true_and, and_true, str_list, str_size, str_app, str_cut, str_get, e0_1, e0_5, e0_6, e0_7, e0_25, e0_26, e0_27, dealPV]
      refine ⟨by decide, by decide, rfl, rfl, by simp, by decide, rfl, hM _ _ ?_⟩
      clear hM M
      refine pops_to rfl fun M hM => ?_
      simp only [pop, St.eval, constSlot, upd_at, Nat.reduceEqDiff, if_true, if_false, popCall, List.toList_toArray, List.map_cons, List.map_nil, popBuiltin, eq_self, true_and, and_true, str_list, str_size, str_app, str_cut, str_get, e0_1, e0_5, e0_6, e0_7, e0_25, e0_26, e0_27, dealPV]
      refine rowL_app (xs := _) (ys := pstrs [quoteB x.dst]) hok0 Tryd.underlying24 sz9 by9 ze9 rfl (by decide) (.inr (ho2.same s5)) (hk2.trans (Same.keeps s5)) (by simp) rfl (.inr rfl) ⟨by simp, by simp⟩ fun sl3 hp3 ho3 hk3 => hM _ _ ?_
      clear hM M
      refine pops_mv (.inr rfl) rfl (by simp only [St.eval, upd_at, Nat.reduceEqDiff, if_true, if_false, e0_1, e0_5, e0_6, e0_7, e0_25, e0_26, e0_27, dealPV] <;> rfl) ?_
      refine pops_done (hR48 _ ?_)
      clear hR48 R48
      try simp only [thenK, scopeK]
      refine hN45 _ ?_
      clear hN45 N45
      first
        | (replace ho3 : RowIs 9 1 hp0 hp3 sl3 (pstrs (actW x)) := by rw [hw]; exact ho3
           refine pwp_freezeRow (sl := sl3) 10 (by simp only [upd_at, Nat.reduceEqDiff, if_true, if_false]) ho3 hok0 hk3 fun hp9 hk9 => ?_)
        | (replace ho2 : RowIs 9 1 hp0 hp2 sl2 (pstrs (actW x)) := by rw [hw]; exact ho2
           refine pwp_freezeRow (sl := sl2) 10 (by simp only [upd_at, Nat.reduceEqDiff, if_true, if_false]) ho2 hok0 hk2 fun hp9 hk9 => ?_)
      refine pwp_reg fun R49 hR49 => ?_
      refine pops_mv (.inl rfl) rfl (by simp only [St.eval, upd_at, Nat.reduceEqDiff, if_true, if_false, e0_1, e0_5, e0_6, e0_7, e0_25, e0_26, e0_27, dealPV] <;> rfl) ?_
      refine pops_mv (.inl rfl) rfl (by simp only [St.eval, upd_at, Nat.reduceEqDiff, if_true, if_false, e0_1, e0_5, e0_6, e0_7, e0_25, e0_26, e0_27, dealPV] <;> rfl) ?_
      refine pops_to rfl fun M hM => ?_
      simp only [pop, St.eval, constSlot, upd_at, Nat.reduceEqDiff, if_true, if_false, popCall, List.toList_toArray, List.map_cons, List.map_nil, svs, List.mapM_cons, List.mapM_nil, Option.bind_eq_bind, Option.bind_some, Option.pure_def, List.append_nil, List.cons_append, List.nil_append, str_size, e0_1, e0_5, e0_6, e0_7, e0_25, e0_26, e0_27, dealPV]
      refine (line_fun W0 h id (actT d i) false (actW x) hb (by rw [hw]; simp) (Nat.le_trans hL (by decide)) (by omega) _ (hB.keeps hk9)).mono ?_
      rintro _ h9 ⟨rfl, hB9⟩
      refine hM _ _ ?_
      clear hM M
      refine pops_done (hR49 _ ?_)
      clear hR49 R49
      try simp only [blockK, thenK, scopeK]
      try simp only [thenK, scopeK]
      refine hN23 _ ?_
      clear hN23 N23
      refine pwp_reg fun R50 hR50 => ?_
      refine pops_to rfl fun M hM => ?_
      simp only [pop, St.eval, constSlot, upd_at, Nat.reduceEqDiff, if_true, if_false, popBin, binK, intK, strK, eqK, eq_self, true_and, and_true, e0_1, e0_5, e0_6, e0_7, e0_25, e0_26, e0_27, dealPV]
      refine hM _ _ ?_
      clear hM M
      refine pops_mv (.inl rfl) rfl (by simp only [St.eval, upd_at, Nat.reduceEqDiff, if_true, if_false, e0_1, e0_5, e0_6, e0_7, e0_25, e0_26, e0_27, dealPV] <;> rfl) ?_
      refine pops_done (hR50 _ ?_)
      clear hR50 R50
      try simp only [thenK, scopeK]
      exact ⟨_, by omega, _, .refl _ _, i + 1, rfl, by omega, by rw [actT_step hx]; exact hB9, by simp only [upd_at, Nat.reduceEqDiff, if_true, if_false, e0_1, e0_5, e0_6, e0_7, e0_25, e0_26, e0_27, dealPV], by simp only [upd_at, Nat.reduceEqDiff, if_true, if_false, e0_1, e0_5, e0_6, e0_7, e0_25, e0_26, e0_27, dealPV], by simp only [upd_at, Nat.reduceEqDiff, if_true, if_false, e0_1, e0_5, e0_6, e0_7, e0_25, e0_26, e0_27, dealPV], by simp only [upd_at, Nat.reduceEqDiff, if_true, if_false, e0_1, e0_5, e0_6, e0_7, e0_25, e0_26, e0_27, dealPV], by simp only [upd_at, Nat.reduceEqDiff, if_true, if_false, e0_1, e0_5, e0_6, e0_7, e0_25, e0_26, e0_27, dealPV], by simp only [upd_at, Nat.reduceEqDiff, if_true, if_false, e0_1, e0_5, e0_6, e0_7, e0_25, e0_26, e0_27, dealPV], by simp only [upd_at, Nat.reduceEqDiff, if_true, if_false, e0_27]; rw [wrap_succ (by omega)]⟩
     ·skip
      have hd : x.dst = [] := by simpa using c62
      first
        | have hw := actW_put hk hd
        | have hw := actW_no hk hd
      refine pwp_skip ?_
      try simp only [thenK, scopeK]
      refine hN45 _ ?_
      clear hN45 N45
      first
        | (replace ho3 : RowIs 9 1 hp0 hp3 sl3 (pstrs (actW x)) := by rw [hw]; exact ho3
           refine pwp_freezeRow (sl := sl3) 10 (by simp only [upd_at, Nat.reduceEqDiff, if_true, if_false]) ho3 hok0 hk3 fun hp9 hk9 => ?_)
        | (replace ho2 : RowIs 9 1 hp0 hp2 sl2 (pstrs (actW x)) := by rw [hw]; exact ho2
           refine pwp_freezeRow (sl := sl2) 10 (by simp only [upd_at, Nat.reduceEqDiff, if_true, if_false]) ho2 hok0 hk2 fun hp9 hk9 => ?_)
      refine pwp_reg fun R51 hR51 => ?_
      refine pops_mv (.inl rfl) rfl (by simp only [St.eval, upd_at, Nat.reduceEqDiff, if_true, if_false, e0_1, e0_5, e0_6, e0_7, e0_25, e0_26, e0_27, dealPV] <;> rfl) ?_
      refine pops_mv (.inl rfl) rfl (by simp only [St.eval, upd_at, Nat.reduceEqDiff, if_true, if_false, e0_1, e0_5, e0_6, e0_7, e0_25, e0_26, e0_27, dealPV] <;> rfl) ?_
      refine pops_to rfl fun M hM => ?_
      simp only [pop, St.eval, constSlot, upd_at, Nat.reduceEqDiff, if_true, if_false, popCall, List.toList_toArray, List.map_cons, List.map_nil, svs, List.mapM_cons, List.mapM_nil, Option.bind_eq_bind, Option.bind_some, Option.pure_def, List.append_nil, List.cons_append, List.nil_append, str_size, e0_1, e0_5, e0_6, e0_7, e0_25, e0_26, e0_27, dealPV]
      refine (line_fun W0 h id (actT d i) false (actW x) hb (by rw [hw]; simp) (Nat.le_trans hL (by decide)) (by omega) _ (hB.keeps hk9)).mono ?_
      rintro _ h9 ⟨rfl, hB9⟩
      refine hM _ _ ?_
      clear hM M
      refine pops_done (hR51 _ ?_)
      clear hR51 R51
      try simp only [blockK, thenK, scopeK]
      try simp only [thenK, scopeK]
      refine hN23 _ ?_
      clear hN23 N23
      refine pwp_reg fun R52 hR52 => ?_
      refine pops_to rfl fun M hM => ?_
      simp only [pop, St.eval, constSlot, upd_at, Nat.reduceEqDiff, if_true, if_false, popBin, binK, intK, strK, eqK, eq_self, true_and, and_true, e0_1, e0_5, e0_6, e0_7, e0_25, e0_26, e0_27, dealPV]
      refine hM _ _ ?_
      clear hM M
      refine pops_mv (.inl rfl) rfl (by simp only [St.eval, upd_at, Nat.reduceEqDiff, if_true, if_false, e0_1, e0_5, e0_6, e0_7, e0_25, e0_26, e0_27, dealPV] <;> rfl) ?_
      refine pops_done (hR52 _ ?_)
      clear hR52 R52
      try simp only [thenK, scopeK]
      exact ⟨_, by omega, _, .refl _ _, i + 1, rfl, by omega, by rw [actT_step hx]; exact hB9, by simp only [upd_at, Nat.reduceEqDiff, if_true, if_false, e0_1, e0_5, e0_6, e0_7, e0_25, e0_26, e0_27, dealPV], by simp only [upd_at, Nat.reduceEqDiff, if_true, if_false, e0_1, e0_5, e0_6, e0_7, e0_25, e0_26, e0_27, dealPV], by simp only [upd_at, Nat.reduceEqDiff, if_true, if_false, e0_1, e0_5, e0_6, e0_7, e0_25, e0_26, e0_27, dealPV], by simp only [upd_at, Nat.reduceEqDiff, if_true, if_false, e0_1, e0_5, e0_6, e0_7, e0_25, e0_26, e0_27, dealPV], by simp only [upd_at, Nat.reduceEqDiff, if_true, if_false, e0_1, e0_5, e0_6, e0_7, e0_25, e0_26, e0_27, dealPV], by simp only [upd_at, Nat.reduceEqDiff, if_true, if_false, e0_1, e0_5, e0_6, e0_7, e0_25, e0_26, e0_27, dealPV], by simp only [upd_at, Nat.reduceEqDiff, if_true, if_false, e0_27]; rw [wrap_succ (by omega)]⟩
   ·skip
    obtain rfl : i = d.acts.length := by have := of_decide_eq_false c28; omega
    refine pwp_exit ?_
    try simp only [thenK, blockK, scopeK, if_true, Nat.reduceEqDiff, if_false]
    clear hN22 N22
    try simp only [blockK, scopeK, if_true, Nat.reduceEqDiff, if_false, thenK]
    try simp only [thenK, scopeK]
    refine hN17 _ ?_
    clear hN17 N17
    refine pwp_then fun N53 hN53 => ?_
    refine pwp_then fun N54 hN54 => ?_
    refine pwp_reg fun R55 hR55 => ?_
    refine pops_to rfl fun M hM => ?_
    simp only [pop, St.eval, constSlot, upd_at, Nat.reduceEqDiff, if_true, if_false, popFieldAddr, fieldOf, List.drop_succ_cons, List.drop_zero, List.getElem?_toArray, List.getElem?_cons_zero, List.getElem?_cons_succ, Tryd.underlying26, sz23, e0_1, e0_5, e0_6, e0_7, e0_25, e0_26, e0_27, dealPV]
    refine ⟨⟨_, rfl⟩, hM _ _ ?_⟩
    clear hM M
    refine pops_to rfl fun M hM => ?_
    simp only [pop, St.eval, constSlot, upd_at, Nat.reduceEqDiff, if_true, if_false, popLoad, loadK, isAggD, List.drop_zero, List.getElem?_toArray, List.getElem?_cons_zero, List.getElem?_cons_succ, Bool.false_eq_true, Tryd.underlying23, sz23, eq_self, true_and, and_true, e0_1, e0_5, e0_6, e0_7, e0_25, e0_26, e0_27, dealPV]
    refine hM _ _ ?_
    clear hM M
    refine pops_to rfl fun M hM => ?_
    simp only [pop, St.eval, constSlot, upd_at, Nat.reduceEqDiff, if_true, if_false, popCall, List.toList_toArray, List.map_cons, List.map_nil, popBuiltin, popLen, lenOfSlot, List.length_map, Tryd.underlying23, eq_self, true_and, and_true, str_list, str_size, str_app, str_cut, str_get, e0_1, e0_5, e0_6, e0_7, e0_25, e0_26, e0_27, dealPV, List.length_map]
    refine hM _ _ ?_
    clear hM M
    refine pops_mv (.inl rfl) rfl (by simp only [St.eval, constSlot] <;> rfl) ?_
    refine pops_done (hR55 _ ?_)
    clear hR55 R55
    try simp only [thenK, scopeK]
    refine hN54 _ ?_
    clear hN54 N54
    refine pwp_block ?_
    refine pwp_loop (fun k σ => ∃ (i : Nat), (k = d.refs.length - i) ∧ (i ≤ d.refs.length) ∧ (Bld 45 5 h σ.hp id (refT d i)) ∧ (σ.env 1 = .sv (.one (.rop (dealPV d)))) ∧ (σ.env 5 = .sv (.one (.rop [pstr [], pstr [112, 117, 116], pstr [107, 101, 101, 112], pstr [114, 101, 109, 111, 118, 101], pstr [99, 108, 101, 97, 114]]))) ∧ (σ.env 6 = .sv (.one (.ptr id 0 0 0))) ∧ (σ.env 7 = .sv (.one (.clo (.func 14) [.ptr id 0 0 0]))) ∧ (σ.env 74 = .sv (.one (.ro false 2 (d.refs.map refPV)))) ∧ (σ.env 75 = .sv (.one (pint (d.refs.length : Nat)))) ∧ (σ.env 76 = .sv (.one (pint (i : Nat))))) _ ⟨_, .refl _ _, 0, rfl, ?_⟩ ?_
    · exact ⟨Nat.zero_le _, by rw [refT_zero]; exact hB, by simp only [upd_at, Nat.reduceEqDiff, if_true, if_false, e0_1, e0_5, e0_6, e0_7, e0_25, e0_26, e0_27, dealPV], by simp only [upd_at, Nat.reduceEqDiff, if_true, if_false, e0_1, e0_5, e0_6, e0_7, e0_25, e0_26, e0_27, dealPV], by simp only [upd_at, Nat.reduceEqDiff, if_true, if_false, e0_1, e0_5, e0_6, e0_7, e0_25, e0_26, e0_27, dealPV], by simp only [upd_at, Nat.reduceEqDiff, if_true, if_false, e0_1, e0_5, e0_6, e0_7, e0_25, e0_26, e0_27, dealPV], by simp only [upd_at, Nat.reduceEqDiff, if_true, if_false, e0_1, e0_5, e0_6, e0_7, e0_25, e0_26, e0_27, dealPV], by simp only [upd_at, Nat.reduceEqDiff, if_true, if_false, e0_1, e0_5, e0_6, e0_7, e0_25, e0_26, e0_27, dealPV], by simp only [upd_at, Nat.reduceEqDiff, if_true, if_false] <;> rfl⟩
    ·rintro k ⟨e, hp1⟩ ⟨i, hk1, hx1_0, sl1, e1_1, e1_5, e1_6, e1_7, e1_74, e1_75, e1_76⟩
     simp only at sl1 e1_1 e1_5 e1_6 e1_7 e1_74 e1_75 e1_76
     have hB := sl1
     refine pwp_hpok fun hok1 => ?_
     simp only at hok1
     refine pwp_then fun N56 hN56 => ?_
     refine pwp_reg fun R57 hR57 => ?_
     refine pops_to rfl fun M hM => ?_
     simp only [pop, St.eval, constSlot, upd_at, Nat.reduceEqDiff, if_true, if_false, popBin, binK, intK, strK, eqK, eq_self, true_and, and_true, e1_1, e1_5, e1_6, e1_7, e1_74, e1_75, e1_76, dealPV]
     refine hM _ _ ?_
     clear hM M
     refine pops_done (hR57 _ ?_)
     clear hR57 R57
     try simp only [thenK, scopeK]
     refine hN56 _ ?_
     clear hN56 N56
     refine pwp_then fun N58 hN58 => ?_
     refine pwp_cond (by simp only [St.eval, upd_at, Nat.reduceEqDiff, if_true, if_false, e1_1, e1_5, e1_6, e1_7, e1_74, e1_75, e1_76, dealPV] <;> rfl) (fun c77 => ?_) (fun c77 => ?_)
     ·skip
      have hi : i < d.refs.length := by have := of_decide_eq_true c77; omega
      obtain ⟨x, hx⟩ : ∃ x, d.refs[i]? = some x := ⟨_, List.getElem?_eq_getElem hi⟩
      have hget : (d.refs.map refPV)[i]? = some [pstr x.1, pint x.2] := by simp only [List.getElem?_map, hx, Option.map_some]
      have hxm := List.mem_of_getElem? hx
      have k3 := a6 x hxm
      have xi1 := hI.2 x hxm
      have hq1 := quote_1024 k3
      have hi1 := itoa_21 xi1
      have hT := (deal_len h0 hI i).2.1
      have hL := refL_len k3 xi1
      refine pwp_skip ?_
      try simp only [thenK, scopeK]
      refine hN58 _ ?_
      clear hN58 N58
      refine pwp_then fun N59 hN59 => ?_
      refine pwp_block ?_
      refine pwp_then fun N60 hN60 => ?_
      refine pwp_reg fun R61 hR61 => ?_
      refine pops_to rfl fun M hM => ?_
      simp only [pop, St.eval, constSlot, upd_at, Nat.reduceEqDiff, if_true, if_false, popIndexAddr, Tryd.underlying23, sz38, eq_self, true_and, and_true, str_list, str_size, str_app, str_cut, str_get, e1_1, e1_5, e1_6, e1_7, e1_74, e1_75, e1_76, dealPV, hget, Int.toNat_natCast]
      refine ⟨Int.natCast_nonneg _, hM _ _ ?_⟩
      clear hM M
      refine pops_to rfl fun M hM => ?_
      simp only [pop, St.eval, constSlot, upd_at, Nat.reduceEqDiff, if_true, if_false, List.length_cons, List.length_nil, Nat.zero_add, Nat.reduceAdd, Nat.reduceLeDiff, List.take_zero, List.take_succ_cons, List.take_nil, List.drop_succ_cons, List.drop_zero, List.drop_nil, List.nil_append, List.cons_append, List.append_nil, and_self, List.getElem?_cons_zero, List.getElem?_cons_succ, List.set_cons_zero, List.set_cons_succ, Option.some.injEq, popLoad, loadK, isAggD, List.drop_zero, List.getElem?_toArray, List.getElem?_cons_zero, List.getElem?_cons_succ, Bool.false_eq_true, Tryd.underlying38, sz38, eq_self, true_and, and_true, e1_1, e1_5, e1_6, e1_7, e1_74, e1_75, e1_76, dealPV]
      refine hM _ _ ?_
      clear hM M
      refine pops_var (hpOk.same hok1 (Same.refl _)) rfl ze38 (zs := [PV.val (.string ⟨#[]⟩), PV.val (.int .i64 0)]) (by kernel_rfl) (by simp) (by simp only [St.eval, constSlot, slotCells, upd_at, Nat.reduceEqDiff, if_true, if_false, e1_1, e1_5, e1_6, e1_7, e1_74, e1_75, e1_76, dealPV] <;> rfl) (by rfl) (by exact Nat.succ_pos _) (by rw [sz38]; rfl) (fun hv62 sv62 => ?_)
      refine pops_done (hR61 _ ?_)
      clear hR61 R61
      try simp only [thenK, scopeK]
      refine hN60 _ ?_
      clear hN60 N60
      refine pwp_dreg 8 mixed (by decide +kernel) fun R63 hR63 => ?_
      simp only [List.take_succ_cons, List.take_zero, List.drop_succ_cons, List.drop_zero]
      apply lex_to
      · rfl
      ·intro h' s' M hM
       simp only [pop, St.eval, constSlot, upd_at, Nat.reduceEqDiff, if_true, if_false, eq_self, true_and, and_true, str_list, str_size, str_app, str_cut, str_get, e1_1, e1_5, e1_6, e1_7, e1_74, e1_75, e1_76, dealPV, s'.1]
       exact hM _ (.refl _)
      apply lex_to
      · rfl
      ·intro h' s' M hM
       simp only [pop, St.eval, constSlot, upd_at, Nat.reduceEqDiff, if_true, if_false, popFieldAddr, fieldOf, List.drop_succ_cons, List.drop_zero, List.getElem?_toArray, List.getElem?_cons_zero, List.getElem?_cons_succ, Tryd.underlying38, sz28, e1_1, e1_5, e1_6, e1_7, e1_74, e1_75, e1_76, dealPV, s'.1]
       exact ⟨⟨_, rfl⟩, hM _ (.refl _)⟩
      apply lex_to
      · rfl
      ·intro h' s' M hM
       simp only [pop, St.eval, constSlot, upd_at, Nat.reduceEqDiff, if_true, if_false, popLoad, loadK, isAggD, List.drop_zero, List.getElem?_toArray, List.getElem?_cons_zero, List.getElem?_cons_succ, Bool.false_eq_true, Tryd.underlying28, sz28, eq_self, true_and, and_true, e1_1, e1_5, e1_6, e1_7, e1_74, e1_75, e1_76, dealPV, s'.1]
       exact hM _ (.refl _)
      apply lex_to
      · rfl
      ·intro h' s' M hM
       simp only [pop, St.eval, constSlot, upd_at, Nat.reduceEqDiff, if_true, if_false, popCall, List.toList_toArray, List.map_cons, List.map_nil, svs, List.mapM_cons, List.mapM_nil, Option.bind_eq_bind, Option.bind_some, Option.pure_def, List.append_nil, List.cons_append, List.nil_append, str_size, e1_1, e1_5, e1_6, e1_7, e1_74, e1_75, e1_76, dealPV, s'.1]
       refine PFun.use (itoa_fun W0 hp x.2 xi1) fun hp s => hM _ s
      apply lex_to
      · rfl
      ·intro h' s' M hM
       simp only [pop, St.eval, constSlot, upd_at, Nat.reduceEqDiff, if_true, if_false, popFieldAddr, fieldOf, List.drop_succ_cons, List.drop_zero, List.getElem?_toArray, List.getElem?_cons_zero, List.getElem?_cons_succ, Tryd.underlying38, sz9, e1_1, e1_5, e1_6, e1_7, e1_74, e1_75, e1_76, dealPV, s'.1]
       exact ⟨⟨_, rfl⟩, hM _ (.refl _)⟩
      apply lex_to
      · rfl
      ·intro h' s' M hM
       simp only [pop, St.eval, constSlot, upd_at, Nat.reduceEqDiff, if_true, if_false, popLoad, loadK, isAggD, List.drop_zero, List.getElem?_toArray, List.getElem?_cons_zero, List.getElem?_cons_succ, Bool.false_eq_true, Tryd.underlying9, sz9, eq_self, true_and, and_true, e1_1, e1_5, e1_6, e1_7, e1_74, e1_75, e1_76, dealPV, s'.1]
       exact hM _ (.refl _)
      apply lex_to
      · rfl
      ·intro h' s' M hM
       simp only [pop, St.eval, constSlot, upd_at, Nat.reduceEqDiff, if_true, if_false, popCall, List.toList_toArray, List.map_cons, List.map_nil, svs, List.mapM_cons, List.mapM_nil, Option.bind_eq_bind, Option.bind_some, Option.pure_def, List.append_nil, List.cons_append, List.nil_append, str_size, e1_1, e1_5, e1_6, e1_7, e1_74, e1_75, e1_76, dealPV, s'.1]
       refine PFun.use (quote_fun W0 x.1 (by omega)) fun hp s => hM _ s
      apply lex_to
      · rfl
      ·intro h' s' M hM
       simp only [pop, St.eval, constSlot, upd_at, Nat.reduceEqDiff, if_true, if_false, popBuildSlice, slotCells, List.toList_toArray, List.map_cons, List.map_nil, List.mapM_cons, List.mapM_nil, Option.bind_eq_bind, Option.bind_some, Option.pure_def, Tryd.underlying24, sz9, ze9, by9, eq_self, true_and, and_true, str_list, str_size, str_app, str_cut, str_get, e1_1, e1_5, e1_6, e1_7, e1_74, e1_75, e1_76, dealPV, s'.1]
       exact ⟨by decide, by decide, rfl, rfl, by simp, by decide, rfl, hM _ (.refl _)⟩
      refine lex_done fun hq3 sq3 => ?_
      replace sq3 := Same.trans sv62 sq3
      refine pops_to rfl fun M hM => ?_
      simp only [pop, St.eval, constSlot, upd_at, Nat.reduceEqDiff, if_true, if_false, popCall, List.toList_toArray, List.map_cons, List.map_nil, svs, List.mapM_cons, List.mapM_nil, Option.bind_eq_bind, Option.bind_some, Option.pure_def, List.append_nil, List.cons_append, List.nil_append, str_size, e1_1, e1_5, e1_6, e1_7, e1_74, e1_75, e1_76, dealPV]
      refine (line_fun W0 h id (refT d i) true [REFUSED, Lib.itoa x.2, quoteB x.1] hb (by simp) (Nat.le_trans hL (by decide)) (by omega) _ (hB.keeps (Same.keeps sq3))).mono ?_
      rintro _ h9 ⟨rfl, hB9⟩
      refine hM _ _ ?_
      clear hM M
      refine pops_done (hR63 _ ?_)
      clear hR63 R63
      try simp only [blockK, thenK, scopeK]
      try simp only [thenK, scopeK]
      refine hN59 _ ?_
      clear hN59 N59
      refine pwp_reg fun R64 hR64 => ?_
      refine pops_to rfl fun M hM => ?_
      simp only [pop, St.eval, constSlot, upd_at, Nat.reduceEqDiff, if_true, if_false, popBin, binK, intK, strK, eqK, eq_self, true_and, and_true, e1_1, e1_5, e1_6, e1_7, e1_74, e1_75, e1_76, dealPV]
      refine hM _ _ ?_
      clear hM M
      refine pops_mv (.inl rfl) rfl (by simp only [St.eval, upd_at, Nat.reduceEqDiff, if_true, if_false, e1_1, e1_5, e1_6, e1_7, e1_74, e1_75, e1_76, dealPV] <;> rfl) ?_
      refine pops_done (hR64 _ ?_)
      clear hR64 R64
      try simp only [thenK, scopeK]
      exact ⟨_, by omega, _, .refl _ _, i + 1, rfl, by omega, by rw [refT_step hx]; exact hB9, by simp only [upd_at, Nat.reduceEqDiff, if_true, if_false, e1_1, e1_5, e1_6, e1_7, e1_74, e1_75, e1_76, dealPV], by simp only [upd_at, Nat.reduceEqDiff, if_true, if_false, e1_1, e1_5, e1_6, e1_7, e1_74, e1_75, e1_76, dealPV], by simp only [upd_at, Nat.reduceEqDiff, if_true, if_false, e1_1, e1_5, e1_6, e1_7, e1_74, e1_75, e1_76, dealPV], by simp only [upd_at, Nat.reduceEqDiff, if_true, if_false, e1_1, e1_5, e1_6, e1_7, e1_74, e1_75, e1_76, dealPV], by simp only [upd_at, Nat.reduceEqDiff, if_true, if_false, e1_1, e1_5, e1_6, e1_7, e1_74, e1_75, e1_76, dealPV], by simp only [upd_at, Nat.reduceEqDiff, if_true, if_false, e1_1, e1_5, e1_6, e1_7, e1_74, e1_75, e1_76, dealPV], by simp only [upd_at, Nat.reduceEqDiff, if_true, if_false, e1_76]; rw [wrap_succ (by omega)]⟩
     ·skip
      obtain rfl : i = d.refs.length := by have := of_decide_eq_false c77; omega
      refine pwp_exit ?_
      try simp only [thenK, blockK, scopeK, if_true, Nat.reduceEqDiff, if_false]
      clear hN58 N58
      try simp only [blockK, scopeK, if_true, Nat.reduceEqDiff, if_false, thenK]
      try simp only [thenK, scopeK]
      refine hN53 _ ?_
      clear hN53 N53
      refine pwp_then fun N65 hN65 => ?_
      refine pwp_then fun N66 hN66 => ?_
      refine pwp_reg fun R67 hR67 => ?_
      refine pops_to rfl fun M hM => ?_
      simp only [pop, St.eval, constSlot, upd_at, Nat.reduceEqDiff, if_true, if_false, popFieldAddr, fieldOf, List.drop_succ_cons, List.drop_zero, List.getElem?_toArray, List.getElem?_cons_zero, List.getElem?_cons_succ, Tryd.underlying26, sz24, e1_1, e1_5, e1_6, e1_7, e1_74, e1_75, e1_76, dealPV]
      refine ⟨⟨_, rfl⟩, hM _ _ ?_⟩
      clear hM M
      refine pops_to rfl fun M hM => ?_
      simp only [pop, St.eval, constSlot, upd_at, Nat.reduceEqDiff, if_true, if_false, popLoad, loadK, isAggD, List.drop_zero, List.getElem?_toArray, List.getElem?_cons_zero, List.getElem?_cons_succ, Bool.false_eq_true, Tryd.underlying24, sz24, eq_self, true_and, and_true, e1_1, e1_5, e1_6, e1_7, e1_74, e1_75, e1_76, dealPV]
      refine hM _ _ ?_
      clear hM M
      refine pops_to rfl fun M hM => ?_
      simp only [pop, St.eval, constSlot, upd_at, Nat.reduceEqDiff, if_true, if_false, popCall, List.toList_toArray, List.map_cons, List.map_nil, popBuiltin, popLen, lenOfSlot, List.length_map, Tryd.underlying24, eq_self, true_and, and_true, str_list, str_size, str_app, str_cut, str_get, e1_1, e1_5, e1_6, e1_7, e1_74, e1_75, e1_76, dealPV, pstrs_len]
      refine hM _ _ ?_
      clear hM M
      refine pops_mv (.inl rfl) rfl (by simp only [St.eval, constSlot] <;> rfl) ?_
      refine pops_done (hR67 _ ?_)
      clear hR67 R67
      try simp only [thenK, scopeK]
      refine hN66 _ ?_
      clear hN66 N66
      refine pwp_block ?_
      refine pwp_loop (fun k σ => ∃ (i : Nat), (k = d.eqs.length - i) ∧ (i ≤ d.eqs.length) ∧ (Bld 45 5 h σ.hp id (eqT d i)) ∧ (σ.env 1 = .sv (.one (.rop (dealPV d)))) ∧ (σ.env 5 = .sv (.one (.rop [pstr [], pstr [112, 117, 116], pstr [107, 101, 101, 112], pstr [114, 101, 109, 111, 118, 101], pstr [99, 108, 101, 97, 114]]))) ∧ (σ.env 6 = .sv (.one (.ptr id 0 0 0))) ∧ (σ.env 7 = .sv (.one (.clo (.func 14) [.ptr id 0 0 0]))) ∧ (σ.env 91 = .sv (.one (.ro false 1 (pstrs d.eqs)))) ∧ (σ.env 92 = .sv (.one (pint (d.eqs.length : Nat)))) ∧ (σ.env 93 = .sv (.one (pint (i : Nat))))) _ ⟨_, .refl _ _, 0, rfl, ?_⟩ ?_
      · exact ⟨Nat.zero_le _, by rw [eqT_zero]; exact hB, by simp only [upd_at, Nat.reduceEqDiff, if_true, if_false, e1_1, e1_5, e1_6, e1_7, e1_74, e1_75, e1_76, dealPV], by simp only [upd_at, Nat.reduceEqDiff, if_true, if_false, e1_1, e1_5, e1_6, e1_7, e1_74, e1_75, e1_76, dealPV], by simp only [upd_at, Nat.reduceEqDiff, if_true, if_false, e1_1, e1_5, e1_6, e1_7, e1_74, e1_75, e1_76, dealPV], by simp only [upd_at, Nat.reduceEqDiff, if_true, if_false, e1_1, e1_5, e1_6, e1_7, e1_74, e1_75, e1_76, dealPV], by simp only [upd_at, Nat.reduceEqDiff, if_true, if_false, e1_1, e1_5, e1_6, e1_7, e1_74, e1_75, e1_76, dealPV], by simp only [upd_at, Nat.reduceEqDiff, if_true, if_false, e1_1, e1_5, e1_6, e1_7, e1_74, e1_75, e1_76, dealPV], by simp only [upd_at, Nat.reduceEqDiff, if_true, if_false] <;> rfl⟩
      ·rintro k ⟨e, hp2⟩ ⟨i, hk2, hx2_0, sl2, e2_1, e2_5, e2_6, e2_7, e2_91, e2_92, e2_93⟩
       simp only at sl2 e2_1 e2_5 e2_6 e2_7 e2_91 e2_92 e2_93
       have hB := sl2
       refine pwp_hpok fun hok2 => ?_
       simp only at hok2
       refine pwp_then fun N68 hN68 => ?_
       refine pwp_reg fun R69 hR69 => ?_
       refine pops_to rfl fun M hM => ?_
       simp only [pop, St.eval, constSlot, upd_at, Nat.reduceEqDiff, if_true, if_false, popBin, binK, intK, strK, eqK, eq_self, true_and, and_true, e2_1, e2_5, e2_6, e2_7, e2_91, e2_92, e2_93, dealPV]
       refine hM _ _ ?_
       clear hM M
       refine pops_done (hR69 _ ?_)
       clear hR69 R69
       try simp only [thenK, scopeK]
       refine hN68 _ ?_
       clear hN68 N68
       refine pwp_then fun N70 hN70 => ?_
       refine pwp_cond (by simp only [St.eval, upd_at, Nat.reduceEqDiff, if_true, if_false, e2_1, e2_5, e2_6, e2_7, e2_91, e2_92, e2_93, dealPV] <;> rfl) (fun c94 => ?_) (fun c94 => ?_)
       ·skip
        have hi : i < (d.eqs).length := by have := of_decide_eq_true c94; omega
        obtain ⟨x, hx⟩ : ∃ x, (d.eqs)[i]? = some x := ⟨_, List.getElem?_eq_getElem hi⟩
        have hget : (pstrs (d.eqs))[i]? = some [pstr x] := by simp only [List.getElem?_map, hx, Option.map_some]
        have hxm := List.mem_of_getElem? hx
        have k3 := a7 x hxm
        have hq1 := quote_1024 k3
        have hT := (deal_len h0 hI i).2.2.1
        have hL := eqL_len k3
        refine pwp_skip ?_
        try simp only [thenK, scopeK]
        refine hN70 _ ?_
        clear hN70 N70
        refine pwp_then fun N71 hN71 => ?_
        refine pwp_block ?_
        refine pwp_then fun N72 hN72 => ?_
        refine pwp_reg fun R73 hR73 => ?_
        refine pops_to rfl fun M hM => ?_
        simp only [pop, St.eval, constSlot, upd_at, Nat.reduceEqDiff, if_true, if_false, popIndexAddr, Tryd.underlying24, sz9, eq_self, true_and, and_true, str_list, str_size, str_app, str_cut, str_get, e2_1, e2_5, e2_6, e2_7, e2_91, e2_92, e2_93, dealPV, hget, Int.toNat_natCast]
        refine ⟨Int.natCast_nonneg _, hM _ _ ?_⟩
        clear hM M
        refine pops_to rfl fun M hM => ?_
        simp only [pop, St.eval, constSlot, upd_at, Nat.reduceEqDiff, if_true, if_false, popLoad, loadK, isAggD, List.drop_zero, List.getElem?_toArray, List.getElem?_cons_zero, List.getElem?_cons_succ, Bool.false_eq_true, Tryd.underlying9, sz9, eq_self, true_and, and_true, e2_1, e2_5, e2_6, e2_7, e2_91, e2_92, e2_93, dealPV]
        refine hM _ _ ?_
        clear hM M
        refine pops_mv (.inr rfl) rfl (by simp only [St.eval, upd_at, Nat.reduceEqDiff, if_true, if_false, e2_1, e2_5, e2_6, e2_7, e2_91, e2_92, e2_93, dealPV] <;> rfl) ?_
        refine pops_done (hR73 _ ?_)
        clear hR73 R73
        try simp only [thenK, scopeK]
        refine hN72 _ ?_
        clear hN72 N72
        refine pwp_reg fun R74 hR74 => ?_
        refine pops_mv (.inl rfl) rfl (by simp only [St.eval, upd_at, Nat.reduceEqDiff, if_true, if_false, e2_1, e2_5, e2_6, e2_7, e2_91, e2_92, e2_93, dealPV] <;> rfl) ?_
        refine pops_mv (.inl rfl) rfl (by simp only [St.eval, upd_at, Nat.reduceEqDiff, if_true, if_false, e2_1, e2_5, e2_6, e2_7, e2_91, e2_92, e2_93, dealPV] <;> rfl) ?_
        refine pops_to rfl fun M hM => ?_
        simp only [pop, St.eval, constSlot, upd_at, Nat.reduceEqDiff, if_true, if_false, popCall, List.toList_toArray, List.map_cons, List.map_nil, svs, List.mapM_cons, List.mapM_nil, Option.bind_eq_bind, Option.bind_some, Option.pure_def, List.append_nil, List.cons_append, List.nil_append, str_size, e2_1, e2_5, e2_6, e2_7, e2_91, e2_92, e2_93, dealPV]
        refine PFun.use (quote_fun W0 x (by omega)) fun h6 s6 => hM _ _ ?_
        replace s6 := Same.trans (Same.refl _) s6
        clear hM M
        refine pops_to rfl fun M hM => ?_
        simp only [pop, St.eval, constSlot, upd_at, Nat.reduceEqDiff, if_true, if_false, popBuildSlice, slotCells, List.toList_toArray, List.map_cons, List.map_nil, List.mapM_cons, List.mapM_nil, Option.bind_eq_bind, Option.bind_some, Option.pure_def, Tryd.underlying24, sz9, ze9, by9, eq_self, true_and, and_true, str_list, str_size, str_app, str_cut, str_get, e2_1, e2_5, e2_6, e2_7, e2_91, e2_92, e2_93, dealPV]
        refine ⟨by decide, by decide, rfl, rfl, by simp, by decide, rfl, hM _ _ ?_⟩
        clear hM M
        refine pops_to rfl fun M hM => ?_
        simp only [pop, St.eval, constSlot, upd_at, Nat.reduceEqDiff, if_true, if_false, popCall, List.toList_toArray, List.map_cons, List.map_nil, svs, List.mapM_cons, List.mapM_nil, Option.bind_eq_bind, Option.bind_some, Option.pure_def, List.append_nil, List.cons_append, List.nil_append, str_size, e2_1, e2_5, e2_6, e2_7, e2_91, e2_92, e2_93, dealPV]
        refine (line_fun W0 h id (eqT d i) true [EQUAL, quoteB x] hb (by simp) (Nat.le_trans hL (by decide)) (by omega) _ (hB.keeps (Same.keeps s6))).mono ?_
        rintro _ h9 ⟨rfl, hB9⟩
        refine hM _ _ ?_
        clear hM M
        refine pops_done (hR74 _ ?_)
        clear hR74 R74
        try simp only [blockK, thenK, scopeK]
        try simp only [thenK, scopeK]
        refine hN71 _ ?_
        clear hN71 N71
        refine pwp_reg fun R75 hR75 => ?_
        refine pops_to rfl fun M hM => ?_
        simp only [pop, St.eval, constSlot, upd_at, Nat.reduceEqDiff, if_true, if_false, popBin, binK, intK, strK, eqK, eq_self, true_and, and_true, e2_1, e2_5, e2_6, e2_7, e2_91, e2_92, e2_93, dealPV]
        refine hM _ _ ?_
        clear hM M
        refine pops_mv (.inl rfl) rfl (by simp only [St.eval, upd_at, Nat.reduceEqDiff, if_true, if_false, e2_1, e2_5, e2_6, e2_7, e2_91, e2_92, e2_93, dealPV] <;> rfl) ?_
        refine pops_done (hR75 _ ?_)
        clear hR75 R75
        try simp only [thenK, scopeK]
        exact ⟨_, by omega, _, .refl _ _, i + 1, rfl, by omega, by rw [eqT_step hx]; exact hB9, by simp only [upd_at, Nat.reduceEqDiff, if_true, if_false, e2_1, e2_5, e2_6, e2_7, e2_91, e2_92, e2_93, dealPV], by simp only [upd_at, Nat.reduceEqDiff, if_true, if_false, e2_1, e2_5, e2_6, e2_7, e2_91, e2_92, e2_93, dealPV], by simp only [upd_at, Nat.reduceEqDiff, if_true, if_false, e2_1, e2_5, e2_6, e2_7, e2_91, e2_92, e2_93, dealPV], by simp only [upd_at, Nat.reduceEqDiff, if_true, if_false, e2_1, e2_5, e2_6, e2_7, e2_91, e2_92, e2_93, dealPV], by simp only [upd_at, Nat.reduceEqDiff, if_true, if_false, e2_1, e2_5, e2_6, e2_7, e2_91, e2_92, e2_93, dealPV], by simp only [upd_at, Nat.reduceEqDiff, if_true, if_false, e2_1, e2_5, e2_6, e2_7, e2_91, e2_92, e2_93, dealPV], by simp only [upd_at, Nat.reduceEqDiff, if_true, if_false, e2_93]; rw [wrap_succ (by omega)]⟩
       ·skip
        obtain rfl : i = d.eqs.length := by have := of_decide_eq_false c94; omega
        refine pwp_exit ?_
        try simp only [thenK, blockK, scopeK, if_true, Nat.reduceEqDiff, if_false]
        clear hN70 N70
        try simp only [blockK, scopeK, if_true, Nat.reduceEqDiff, if_false, thenK]
        try simp only [thenK, scopeK]
        refine hN65 _ ?_
        clear hN65 N65
        refine pwp_then fun N76 hN76 => ?_
        refine pwp_then fun N77 hN77 => ?_
        refine pwp_reg fun R78 hR78 => ?_
        refine pops_to rfl fun M hM => ?_
        simp only [pop, St.eval, constSlot, upd_at, Nat.reduceEqDiff, if_true, if_false, popFieldAddr, fieldOf, List.drop_succ_cons, List.drop_zero, List.getElem?_toArray, List.getElem?_cons_zero, List.getElem?_cons_succ, Tryd.underlying26, sz24, e2_1, e2_5, e2_6, e2_7, e2_91, e2_92, e2_93, dealPV]
        refine ⟨⟨_, rfl⟩, hM _ _ ?_⟩
        clear hM M
        refine pops_to rfl fun M hM => ?_
        simp only [pop, St.eval, constSlot, upd_at, Nat.reduceEqDiff, if_true, if_false, popLoad, loadK, isAggD, List.drop_zero, List.getElem?_toArray, List.getElem?_cons_zero, List.getElem?_cons_succ, Bool.false_eq_true, Tryd.underlying24, sz24, eq_self, true_and, and_true, e2_1, e2_5, e2_6, e2_7, e2_91, e2_92, e2_93, dealPV]
        refine hM _ _ ?_
        clear hM M
        refine pops_to rfl fun M hM => ?_
        simp only [pop, St.eval, constSlot, upd_at, Nat.reduceEqDiff, if_true, if_false, popCall, List.toList_toArray, List.map_cons, List.map_nil, popBuiltin, popLen, lenOfSlot, List.length_map, Tryd.underlying24, eq_self, true_and, and_true, str_list, str_size, str_app, str_cut, str_get, e2_1, e2_5, e2_6, e2_7, e2_91, e2_92, e2_93, dealPV, pstrs_len]
        refine hM _ _ ?_
        clear hM M
        refine pops_mv (.inl rfl) rfl (by simp only [St.eval, constSlot] <;> rfl) ?_
        refine pops_done (hR78 _ ?_)
        clear hR78 R78
        try simp only [thenK, scopeK]
        refine hN77 _ ?_
        clear hN77 N77
        refine pwp_block ?_
        refine pwp_loop (fun k σ => ∃ (i : Nat), (k = d.cons.length - i) ∧ (i ≤ d.cons.length) ∧ (Bld 45 5 h σ.hp id (conT d i)) ∧ (σ.env 1 = .sv (.one (.rop (dealPV d)))) ∧ (σ.env 5 = .sv (.one (.rop [pstr [], pstr [112, 117, 116], pstr [107, 101, 101, 112], pstr [114, 101, 109, 111, 118, 101], pstr [99, 108, 101, 97, 114]]))) ∧ (σ.env 6 = .sv (.one (.ptr id 0 0 0))) ∧ (σ.env 7 = .sv (.one (.clo (.func 14) [.ptr id 0 0 0]))) ∧ (σ.env 104 = .sv (.one (.ro false 1 (pstrs d.cons)))) ∧ (σ.env 105 = .sv (.one (pint (d.cons.length : Nat)))) ∧ (σ.env 106 = .sv (.one (pint (i : Nat))))) _ ⟨_, .refl _ _, 0, rfl, ?_⟩ ?_
        · exact ⟨Nat.zero_le _, by rw [conT_zero]; exact hB, by simp only [upd_at, Nat.reduceEqDiff, if_true, if_false, e2_1, e2_5, e2_6, e2_7, e2_91, e2_92, e2_93, dealPV], by simp only [upd_at, Nat.reduceEqDiff, if_true, if_false, e2_1, e2_5, e2_6, e2_7, e2_91, e2_92, e2_93, dealPV], by simp only [upd_at, Nat.reduceEqDiff, if_true, if_false, e2_1, e2_5, e2_6, e2_7, e2_91, e2_92, e2_93, dealPV], by simp only [upd_at, Nat.reduceEqDiff, if_true, if_false, e2_1, e2_5, e2_6, e2_7, e2_91, e2_92, e2_93, dealPV], by simp only [upd_at, Nat.reduceEqDiff, if_true, if_false, e2_1, e2_5, e2_6, e2_7, e2_91, e2_92, e2_93, dealPV], by simp only [upd_at, Nat.reduceEqDiff, if_true, if_false, e2_1, e2_5, e2_6, e2_7, e2_91, e2_92, e2_93, dealPV], by simp only [upd_at, Nat.reduceEqDiff, if_true, if_false] <;> rfl⟩
        ·rintro k ⟨e, hp3⟩ ⟨i, hk3, hx3_0, sl3, e3_1, e3_5, e3_6, e3_7, e3_104, e3_105, e3_106⟩
         simp only at sl3 e3_1 e3_5 e3_6 e3_7 e3_104 e3_105 e3_106
         have hB := sl3
         refine pwp_hpok fun hok3 => ?_
         simp only at hok3
         refine pwp_then fun N79 hN79 => ?_
         refine pwp_reg fun R80 hR80 => ?_
         refine pops_to rfl fun M hM => ?_
         simp only [pop, St.eval, constSlot, upd_at, Nat.reduceEqDiff, if_true, if_false, popBin, binK, intK, strK, eqK, eq_self, true_and, and_true, e3_1, e3_5, e3_6, e3_7, e3_104, e3_105, e3_106, dealPV]
         refine hM _ _ ?_
         clear hM M
         refine pops_done (hR80 _ ?_)
         clear hR80 R80
         try simp only [thenK, scopeK]
         refine hN79 _ ?_
         clear hN79 N79
         refine pwp_then fun N81 hN81 => ?_
         refine pwp_cond (by simp only [St.eval, upd_at, Nat.reduceEqDiff, if_true, if_false, e3_1, e3_5, e3_6, e3_7, e3_104, e3_105, e3_106, dealPV] <;> rfl) (fun c107 => ?_) (fun c107 => ?_)
         ·skip
          have hi : i < (d.cons).length := by have := of_decide_eq_true c107; omega
          obtain ⟨x, hx⟩ : ∃ x, (d.cons)[i]? = some x := ⟨_, List.getElem?_eq_getElem hi⟩
          have hget : (pstrs (d.cons))[i]? = some [pstr x] := by simp only [List.getElem?_map, hx, Option.map_some]
          have hxm := List.mem_of_getElem? hx
          have k3 := a8 x hxm
          have hq1 := quote_1024 k3
          have hT := (deal_len h0 hI i).2.2.2
          have hL := conL_len k3
          refine pwp_skip ?_
          try simp only [thenK, scopeK]
          refine hN81 _ ?_
          clear hN81 N81
          refine pwp_then fun N82 hN82 => ?_
          refine pwp_block ?_
          refine pwp_then fun N83 hN83 => ?_
          refine pwp_reg fun R84 hR84 => ?_
          refine pops_to rfl fun M hM => ?_
          simp only [pop, St.eval, constSlot, upd_at, Nat.reduceEqDiff, if_true, if_false, popIndexAddr, Tryd.underlying24, sz9, eq_self, true_and, and_true, str_list, str_size, str_app, str_cut, str_get, e3_1, e3_5, e3_6, e3_7, e3_104, e3_105, e3_106, dealPV, hget, Int.toNat_natCast]
          refine ⟨Int.natCast_nonneg _, hM _ _ ?_⟩
          clear hM M
          refine pops_to rfl fun M hM => ?_
          simp only [pop, St.eval, constSlot, upd_at, Nat.reduceEqDiff, if_true, if_false, popLoad, loadK, isAggD, List.drop_zero, List.getElem?_toArray, List.getElem?_cons_zero, List.getElem?_cons_succ, Bool.false_eq_true, Tryd.underlying9, sz9, eq_self, true_and, and_true, e3_1, e3_5, e3_6, e3_7, e3_104, e3_105, e3_106, dealPV]
          refine hM _ _ ?_
          clear hM M
          refine pops_mv (.inr rfl) rfl (by simp only [St.eval, upd_at, Nat.reduceEqDiff, if_true, if_false, e3_1, e3_5, e3_6, e3_7, e3_104, e3_105, e3_106, dealPV] <;> rfl) ?_
          refine pops_done (hR84 _ ?_)
          clear hR84 R84
          try simp only [thenK, scopeK]
          refine hN83 _ ?_
          clear hN83 N83
          refine pwp_reg fun R85 hR85 => ?_
          refine pops_mv (.inl rfl) rfl (by simp only [St.eval, upd_at, Nat.reduceEqDiff, if_true, if_false, e3_1, e3_5, e3_6, e3_7, e3_104, e3_105, e3_106, dealPV] <;> rfl) ?_
          refine pops_mv (.inl rfl) rfl (by simp only [St.eval, upd_at, Nat.reduceEqDiff, if_true, if_false, e3_1, e3_5, e3_6, e3_7, e3_104, e3_105, e3_106, dealPV] <;> rfl) ?_
          refine pops_to rfl fun M hM => ?_
          simp only [pop, St.eval, constSlot, upd_at, Nat.reduceEqDiff, if_true, if_false, popCall, List.toList_toArray, List.map_cons, List.map_nil, svs, List.mapM_cons, List.mapM_nil, Option.bind_eq_bind, Option.bind_some, Option.pure_def, List.append_nil, List.cons_append, List.nil_append, str_size, e3_1, e3_5, e3_6, e3_7, e3_104, e3_105, e3_106, dealPV]
          refine PFun.use (quote_fun W0 x (by omega)) fun h7 s7 => hM _ _ ?_
          replace s7 := Same.trans (Same.refl _) s7
          clear hM M
          refine pops_to rfl fun M hM => ?_
          simp only [pop, St.eval, constSlot, upd_at, Nat.reduceEqDiff, if_true, if_false, popBuildSlice, slotCells, List.toList_toArray, List.map_cons, List.map_nil, List.mapM_cons, List.mapM_nil, Option.bind_eq_bind, Option.bind_some, Option.pure_def, Tryd.underlying24, sz9, ze9, by9, eq_self, true_and, and_true, str_list, str_size, str_app, str_cut, str_get, e3_1, e3_5, e3_6, e3_7, e3_104, e3_105, e3_106, dealPV]
          refine ⟨by decide, by decide, rfl, rfl, by simp, by decide, rfl, hM _ _ ?_⟩
          clear hM M
          refine pops_to rfl fun M hM => ?_
          simp only [pop, St.eval, constSlot, upd_at, Nat.reduceEqDiff, if_true, if_false, popCall, List.toList_toArray, List.map_cons, List.map_nil, svs, List.mapM_cons, List.mapM_nil, Option.bind_eq_bind, Option.bind_some, Option.pure_def, List.append_nil, List.cons_append, List.nil_append, str_size, e3_1, e3_5, e3_6, e3_7, e3_104, e3_105, e3_106, dealPV]
          refine (line_fun W0 h id (conT d i) true [CONFLICT, quoteB x] hb (by simp) (Nat.le_trans hL (by decide)) (by omega) _ (hB.keeps (Same.keeps s7))).mono ?_
          rintro _ h9 ⟨rfl, hB9⟩
          refine hM _ _ ?_
          clear hM M
          refine pops_done (hR85 _ ?_)
          clear hR85 R85
          try simp only [blockK, thenK, scopeK]
          try simp only [thenK, scopeK]
          refine hN82 _ ?_
          clear hN82 N82
          refine pwp_reg fun R86 hR86 => ?_
          refine pops_to rfl fun M hM => ?_
          simp only [pop, St.eval, constSlot, upd_at, Nat.reduceEqDiff, if_true, if_false, popBin, binK, intK, strK, eqK, eq_self, true_and, and_true, e3_1, e3_5, e3_6, e3_7, e3_104, e3_105, e3_106, dealPV]
          refine hM _ _ ?_
          clear hM M
          refine pops_mv (.inl rfl) rfl (by simp only [St.eval, upd_at, Nat.reduceEqDiff, if_true, if_false, e3_1, e3_5, e3_6, e3_7, e3_104, e3_105, e3_106, dealPV] <;> rfl) ?_
          refine pops_done (hR86 _ ?_)
          clear hR86 R86
          try simp only [thenK, scopeK]
          exact ⟨_, by omega, _, .refl _ _, i + 1, rfl, by omega, by rw [conT_step hx]; exact hB9, by simp only [upd_at, Nat.reduceEqDiff, if_true, if_false, e3_1, e3_5, e3_6, e3_7, e3_104, e3_105, e3_106, dealPV], by simp only [upd_at, Nat.reduceEqDiff, if_true, if_false, e3_1, e3_5, e3_6, e3_7, e3_104, e3_105, e3_106, dealPV], by simp only [upd_at, Nat.reduceEqDiff, if_true, if_false, e3_1, e3_5, e3_6, e3_7, e3_104, e3_105, e3_106, dealPV], by simp only [upd_at, Nat.reduceEqDiff, if_true, if_false, e3_1, e3_5, e3_6, e3_7, e3_104, e3_105, e3_106, dealPV], by simp only [upd_at, Nat.reduceEqDiff, if_true, if_false, e3_1, e3_5, e3_6, e3_7, e3_104, e3_105, e3_106, dealPV], by simp only [upd_at, Nat.reduceEqDiff, if_true, if_false, e3_1, e3_5, e3_6, e3_7, e3_104, e3_105, e3_106, dealPV], by simp only [upd_at, Nat.reduceEqDiff, if_true, if_false, e3_106]; rw [wrap_succ (by omega)]⟩
         ·skip
          obtain rfl : i = d.cons.length := by have := of_decide_eq_false c107; omega
          refine pwp_exit ?_
          try simp only [thenK, blockK, scopeK, if_true, Nat.reduceEqDiff, if_false]
          clear hN81 N81
          try simp only [blockK, scopeK, if_true, Nat.reduceEqDiff, if_false, thenK]
          try simp only [thenK, scopeK]
          refine hN76 _ ?_
          clear hN76 N76
          refine pwp_then fun N87 hN87 => ?_
          refine pwp_reg fun R88 hR88 => ?_
          refine pops_to rfl fun M hM => ?_
          simp only [pop, St.eval, constSlot, upd_at, Nat.reduceEqDiff, if_true, if_false, popCall, List.toList_toArray, List.map_cons, List.map_nil, svs, List.mapM_cons, List.mapM_nil, Option.bind_eq_bind, Option.bind_some, Option.pure_def, List.append_nil, List.cons_append, List.nil_append, str_size, e3_1, e3_5, e3_6, e3_7, e3_104, e3_105, e3_106, dealPV]
          refine (string_bld W0 hb hB).mono ?_
          rintro _ h9 ⟨rfl, s9⟩
          refine hM _ _ ?_
          clear hM M
          refine pops_mv (.inr rfl) rfl (by simp only [St.eval, upd_at, Nat.reduceEqDiff, if_true, if_false, e3_1, e3_5, e3_6, e3_7, e3_104, e3_105, e3_106, dealPV] <;> rfl) ?_
          refine pops_mv (.inr rfl) rfl (by simp only [St.eval, constSlot] <;> rfl) ?_
          refine pops_done (hR88 _ ?_)
          clear hR88 R88
          try simp only [thenK, scopeK]
          refine hN87 _ ?_
          clear hN87 N87
          refine pwp_ret ?_
          simp only [thenK, blockK, scopeK, bodyK]
          refine ⟨_, rfl, endFun s9 ?_⟩
          try simp only [upd_at, Nat.reduceEqDiff, if_true, if_false, e3_1, e3_5, e3_6, e3_7, e3_104, e3_105, e3_106, dealPV]
          all_goals
           rw [if_pos h0, ← conT_end, h0]
end Go.Pw
