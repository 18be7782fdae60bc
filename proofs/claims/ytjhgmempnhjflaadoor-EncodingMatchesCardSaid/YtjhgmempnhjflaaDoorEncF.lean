import Derived.Test.YtjhgmempnhjflaaDoorEncF0
namespace Go.Pw
open Go Go.RowKit Go.Proofs
set_option maxRecDepth 100000
set_option linter.unusedSimpArgs false
set_option linter.unusedVariables false
theorem names_split_own (W0 : World) (hm : HasMax W0) (s : List UInt8) (hl : s.length ≤ 1024) (h : Hp) :
  PCalls Tryd.prog W0 79 [.one (pstr s)] h (fun r h' => RowIs 9 1 h h' r (pstrs (namesR s)) ∧ Keeps h h') := by
 refine pcalls1 (n := 7) Tryd.func79 rfl nm79 rfl fun hb => ?_
 refine pwp_then fun N1 hN1 => ?_
 refine pwp_reg fun R2 hR2 => ?_
 refine pops_to rfl fun M hM => ?_
 simp only [pop, St.eval, constSlot, upd_at, Nat.reduceEqDiff, if_true, if_false, eq_self, true_and, and_true, str_list, str_size, str_app, str_cut, str_get]
 refine hM _ _ ?_
 clear hM M
 refine pops_done (hR2 _ ?_)
 clear hR2 R2
 try simp only [thenK, scopeK]
 refine hN1 _ ?_
 clear hN1 N1
 refine pwp_then fun N3 hN3 => ?_
 refine pwp_then fun N4 hN4 => ?_
 refine pwp_reg fun R5 hR5 => ?_
 refine pops_to rfl fun M hM => ?_
 simp only [pop, St.eval, constSlot, upd_at, Nat.reduceEqDiff, if_true, if_false, eq_self, true_and, and_true, str_list, str_size, str_app, str_cut, str_get]
 refine hM _ _ ?_
 clear hM M
 refine pops_to rfl fun M hM => ?_
 simp only [pop, St.eval, constSlot, upd_at, Nat.reduceEqDiff, if_true, if_false, popBin, binK, intK, strK, eqK, Tryd.underlying9, isPtr, eq_self, true_and, and_true, str_list, str_size, str_app, str_cut, str_get]
 refine hM _ _ ?_
 clear hM M
 refine pops_done (hR5 _ ?_)
 clear hR5 R5
 try simp only [thenK, scopeK]
 refine hN4 _ ?_
 clear hN4 N4
 refine pwp_cond (by simp only [St.eval, upd_at, Nat.reduceEqDiff, if_true, if_false] <;> rfl) (fun c4 => ?_) (fun c4 => ?_)
 ·skip
  have hs : s = [] := by simpa using c4
  refine pwp_then fun N6 hN6 => ?_
  refine pwp_reg fun R7 hR7 => ?_
  refine pops_to rfl fun M hM => ?_
  simp only [pop, St.eval, constSlot, upd_at, Nat.reduceEqDiff, if_true, if_false, eq_self, true_and, and_true, str_list, str_size, str_app, str_cut, str_get]
  refine hM _ _ ?_
  clear hM M
  refine pops_done (hR7 _ ?_)
  clear hR7 R7
  try simp only [thenK, scopeK]
  refine hN6 _ ?_
  clear hN6 N6
  refine pwp_ret ?_
  simp only [thenK, blockK, scopeK, bodyK]
  clear hN3 N3
  refine ⟨_, rfl, ?_⟩
  try simp only [upd_at, Nat.reduceEqDiff, if_true, if_false]
  exact ⟨_, _, .refl _ _ _, .inl ⟨rfl, by rw [namesR, if_pos hs]; rfl⟩, .refl _⟩
 ·skip
  have hs : ¬ s = [] := by simpa using c4
  refine pwp_skip ?_
  try simp only [thenK, scopeK]
  refine hN3 _ ?_
  clear hN3 N3
  refine pwp_then fun N8 hN8 => ?_
  refine pwp_reg fun R9 hR9 => ?_
  refine pops_to rfl fun M hM => ?_
  simp only [pop, St.eval, constSlot, upd_at, Nat.reduceEqDiff, if_true, if_false, eq_self, true_and, and_true, str_list, str_size, str_app, str_cut, str_get]
  refine hM _ _ ?_
  clear hM M
  refine pops_to rfl fun M hM => ?_
  simp only [pop, St.eval, constSlot, upd_at, Nat.reduceEqDiff, if_true, if_false, popCall, List.toList_toArray, List.map_cons, List.map_nil, svs, List.mapM_cons, List.mapM_nil, Option.bind_eq_bind, Option.bind_some, Option.pure_def, List.append_nil, List.cons_append, List.nil_append, eq_self, true_and, and_true, str_list, str_size, str_app, str_cut, str_get]
  refine (split_own W0 hm s 47 (by omega) _).mono ?_
  rintro r h1 ⟨id, hid, rfl, rfl⟩
  refine hM _ _ ?_
  clear hM M
  refine pops_to rfl fun M hM => ?_
  simp only [pop, St.eval, constSlot, upd_at, Nat.reduceEqDiff, if_true, if_false, eq_self, true_and, and_true, str_list, str_size, str_app, str_cut, str_get]
  refine hM _ _ ?_
  clear hM M
  refine pops_done (hR9 _ ?_)
  clear hR9 R9
  try simp only [thenK, scopeK]
  refine hN8 _ ?_
  clear hN8 N8
  refine pwp_ret ?_
  simp only [thenK, blockK, scopeK, bodyK]
  refine ⟨_, rfl, ?_⟩
  try simp only [upd_at, Nat.reduceEqDiff, if_true, if_false]
  refine ⟨_, _, .refl _ _ _, ?_, .new hb hid⟩
  rw [namesR, if_neg hs]
  exact .inr ⟨id, 0, _, by simp [pstrs], hid, blk_new _ _ _, List.take_length⟩

theorem nm47 : (Tryd.f47.name == "runtime.NumGoroutine") = false := by kernel_rfl
set_option maxHeartbeats 2000000 in
theorem decode_fun (W0 : World) (hm : HasMax W0) (x : Enc) (s : List UInt8) (hnl : x.names.length ≤ 9223372036854775807) (hf : ∀ y ∈ [x.forbid, x.head, x.tail], y.length ≤ 9223372036854775807) :
  PFun Tryd.prog W0 47 [.agg (encPV x), .one (pstr s)] (.tup [.one (pstr (decodeR x s).1), .one (pint (decodeR x s).2)]) := by
 intro h
 have hnn2 := namesR_len s
 refine pcalls2 (n := 75) Tryd.func47 rfl nm47 rfl fun hb => ?_
 refine pwp_then fun N1 hN1 => ?_
 refine pwp_reg fun R2 hR2 => ?_
 refine pops_to rfl fun M hM => ?_
 simp only [pop, St.eval, constSlot, upd_at, Nat.reduceEqDiff, if_true, if_false, popBox, popBoxRo, slotCells, encPV]
 refine .inr ⟨Nat.succ_pos _, hM _ _ ?_⟩
 clear hM M
 refine pops_mv (.inr rfl) rfl (by simp only [St.eval, constSlot] <;> rfl) ?_
 refine pops_mv (.inr rfl) rfl (by simp only [St.eval, constSlot] <;> rfl) ?_
 refine pops_done (hR2 _ ?_)
 clear hR2 R2
 try simp only [thenK, scopeK]
 refine hN1 _ ?_
 clear hN1 N1
 refine pwp_then fun N3 hN3 => ?_
 refine pwp_then fun N4 hN4 => ?_
 refine pwp_reg fun R5 hR5 => ?_
 refine pops_to rfl fun M hM => ?_
 simp only [pop, St.eval, constSlot, upd_at, Nat.reduceEqDiff, if_true, if_false, List.length_cons, List.length_nil, Nat.zero_add, Nat.reduceAdd, Nat.reduceLeDiff, List.take_zero, List.take_succ_cons, List.take_nil, List.drop_succ_cons, List.drop_zero, List.drop_nil, List.nil_append, List.cons_append, List.append_nil, and_self, List.getElem?_cons_zero, List.getElem?_cons_succ, List.set_cons_zero, List.set_cons_succ, Option.some.injEq, popLoad, loadK, isAggD, List.drop_zero, List.getElem?_toArray, List.getElem?_cons_zero, List.getElem?_cons_succ, Bool.false_eq_true, Tryd.underlying64, sz64, eq_self, true_and, and_true, encPV]
 refine hM _ _ ?_
 clear hM M
 refine pops_to rfl fun M hM => ?_
 simp only [pop, St.eval, constSlot, upd_at, Nat.reduceEqDiff, if_true, if_false, popCall, List.toList_toArray, List.map_cons, List.map_nil, svs, List.mapM_cons, List.mapM_nil, Option.bind_eq_bind, Option.bind_some, Option.pure_def, List.append_nil, List.cons_append, List.nil_append, str_size, encPV]
 refine PFun.use (checkEnc_fun W0 x hf hnl) fun h1 s1 => hM _ _ ?_
 replace s1 := Same.trans (Same.refl _) s1
 clear hM M
 refine pops_mv (.inr rfl) rfl (by simp only [St.eval, upd_at, Nat.reduceEqDiff, if_true, if_false, encPV] <;> rfl) ?_
 refine pops_done (hR5 _ ?_)
 clear hR5 R5
 try simp only [thenK, scopeK]
 refine hN4 _ ?_
 clear hN4 N4
 refine pwp_then fun N6 hN6 => ?_
 refine pwp_reg fun R7 hR7 => ?_
 refine pops_mv (.inl rfl) rfl (by simp only [St.eval, upd_at, Nat.reduceEqDiff, if_true, if_false, encPV] <;> rfl) ?_
 refine pops_to rfl fun M hM => ?_
 simp only [pop, St.eval, constSlot, upd_at, Nat.reduceEqDiff, if_true, if_false, popBin, binK, intK, strK, eqK, Tryd.underlying31, isPtr, eq_self, true_and, and_true, encPV]
 refine hM _ _ ?_
 clear hM M
 refine pops_done (hR7 _ ?_)
 clear hR7 R7
 try simp only [thenK, scopeK]
 refine hN6 _ ?_
 clear hN6 N6
 refine pwp_cond (by simp only [St.eval, upd_at, Nat.reduceEqDiff, if_true, if_false, encPV] <;> rfl) (fun c19 => ?_) (fun c19 => ?_)
 ·skip
  have hec : encCheckR x ≠ 0 := by simpa using c19
  refine pwp_then fun N8 hN8 => ?_
  refine pwp_reg fun R9 hR9 => ?_
  refine pops_mv (.inl rfl) rfl (by simp only [St.eval, upd_at, Nat.reduceEqDiff, if_true, if_false, encPV] <;> rfl) ?_
  refine pops_mv (.inr rfl) rfl (by simp only [St.eval, constSlot] <;> rfl) ?_
  refine pops_mv (.inr rfl) rfl (by simp only [St.eval, upd_at, Nat.reduceEqDiff, if_true, if_false, encPV] <;> rfl) ?_
  refine pops_done (hR9 _ ?_)
  clear hR9 R9
  try simp only [thenK, scopeK]
  refine hN8 _ ?_
  clear hN8 N8
  refine pwp_ret ?_
  simp only [thenK, blockK, scopeK, bodyK]
  clear hN3 N3
  exact ⟨_, rfl, by rw [decodeR, if_neg hec]; exact endKeeps2 (Same.keeps s1) rfl⟩
 ·skip
  have hec : encCheckR x = 0 := by simpa using c19
  have hsd := encCheck_sorted hec
  refine pwp_skip ?_
  try simp only [thenK, scopeK]
  refine hN3 _ ?_
  clear hN3 N3
  refine pwp_then fun N10 hN10 => ?_
  refine pwp_then fun N11 hN11 => ?_
  refine pwp_reg fun R12 hR12 => ?_
  refine pops_mv (.inl rfl) rfl (by simp only [St.eval, upd_at, Nat.reduceEqDiff, if_true, if_false, encPV] <;> rfl) ?_
  refine pops_to rfl fun M hM => ?_
  simp only [pop, St.eval, constSlot, upd_at, Nat.reduceEqDiff, if_true, if_false, popCall, List.toList_toArray, List.map_cons, List.map_nil, svs, List.mapM_cons, List.mapM_nil, Option.bind_eq_bind, Option.bind_some, Option.pure_def, List.append_nil, List.cons_append, List.nil_append, str_size, encPV]
  refine PFun.use (check_fun W0 hm isNameB _ (fun y _ => isName_fun W0 y)) fun h2 s2 => hM _ _ ?_
  replace s2 := Same.trans s1 s2
  clear hM M
  refine pops_mv (.inr rfl) rfl (by simp only [St.eval, upd_at, Nat.reduceEqDiff, if_true, if_false, encPV] <;> rfl) ?_
  refine pops_done (hR12 _ ?_)
  clear hR12 R12
  try simp only [thenK, scopeK]
  refine hN11 _ ?_
  clear hN11 N11
  refine pwp_then fun N13 hN13 => ?_
  refine pwp_reg fun R14 hR14 => ?_
  refine pops_mv (.inl rfl) rfl (by simp only [St.eval, upd_at, Nat.reduceEqDiff, if_true, if_false, encPV] <;> rfl) ?_
  refine pops_to rfl fun M hM => ?_
  simp only [pop, St.eval, constSlot, upd_at, Nat.reduceEqDiff, if_true, if_false, popBin, binK, intK, strK, eqK, Tryd.underlying31, isPtr, eq_self, true_and, and_true, encPV]
  refine hM _ _ ?_
  clear hM M
  refine pops_done (hR14 _ ?_)
  clear hR14 R14
  try simp only [thenK, scopeK]
  refine hN13 _ ?_
  clear hN13 N13
  refine pwp_cond (by simp only [St.eval, upd_at, Nat.reduceEqDiff, if_true, if_false, encPV] <;> rfl) (fun c24 => ?_) (fun c24 => ?_)
  ·skip
   have hp : isPathB s = false := by
     cases h9 : isPathB s with
     | false => rfl
     | true => rw [checkR_eq, h9] at c24; simp at c24
   refine pwp_then fun N15 hN15 => ?_
   refine pwp_reg fun R16 hR16 => ?_
   refine pops_mv (.inl rfl) rfl (by simp only [St.eval, upd_at, Nat.reduceEqDiff, if_true, if_false, encPV] <;> rfl) ?_
   refine pops_mv (.inr rfl) rfl (by simp only [St.eval, constSlot] <;> rfl) ?_
   refine pops_mv (.inr rfl) rfl (by simp only [St.eval, upd_at, Nat.reduceEqDiff, if_true, if_false, encPV] <;> rfl) ?_
   refine pops_done (hR16 _ ?_)
   clear hR16 R16
   try simp only [thenK, scopeK]
   refine hN15 _ ?_
   clear hN15 N15
   refine pwp_ret ?_
   simp only [thenK, blockK, scopeK, bodyK]
   clear hN10 N10
   exact ⟨_, rfl, by rw [decodeR, if_pos hec, decR, hp, checkR_eq, hp]; exact endKeeps2 (Same.keeps s2) rfl⟩
  ·skip
   have hp : isPathB s = true := by
     cases h9 : isPathB s with
     | true => rfl
     | false => rw [checkR_eq, h9] at c24; simp at c24
   have hlen := isPathB_len hp
   refine pwp_skip ?_
   try simp only [thenK, scopeK]
   refine hN10 _ ?_
   clear hN10 N10
   refine pwp_then fun N17 hN17 => ?_
   refine pwp_reg fun R18 hR18 => ?_
   refine pops_mv (.inl rfl) rfl (by simp only [St.eval, upd_at, Nat.reduceEqDiff, if_true, if_false, encPV] <;> rfl) ?_
   refine pops_to rfl fun M hM => ?_
   simp only [pop, St.eval, constSlot, upd_at, Nat.reduceEqDiff, if_true, if_false, popCall, List.toList_toArray, List.map_cons, List.map_nil, svs, List.mapM_cons, List.mapM_nil, Option.bind_eq_bind, Option.bind_some, Option.pure_def, List.append_nil, List.cons_append, List.nil_append, str_size, encPV]
   refine (names_split_own W0 hm s hlen _).mono ?_
   rintro slr h7 ⟨ho1, hk1⟩
   replace hk1 := (Same.keeps s2).trans hk1
   replace ho1 : RowIs 9 1 h h7 slr (pstrs (namesR s)) := by rcases ho1 with h1 | ⟨a, b, c, h1, h2, h3⟩; exact .inl h1; exact .inr ⟨a, b, c, h1, Nat.le_trans (Same.keeps s2).2 h2, h3⟩
   refine hM _ _ ?_
   clear hM M
   refine pops_mv (.inr rfl) rfl (by simp only [St.eval, upd_at, Nat.reduceEqDiff, if_true, if_false, encPV] <;> rfl) ?_
   refine pops_done (hR18 _ ?_)
   clear hR18 R18
   try simp only [thenK, scopeK]
   refine hN17 _ ?_
   clear hN17 N17
   refine pwp_then fun N19 hN19 => ?_
   refine pwp_then fun N20 hN20 => ?_
   refine pwp_reg fun R21 hR21 => ?_
   refine pops_mv (.inl rfl) rfl (by simp only [St.eval, upd_at, Nat.reduceEqDiff, if_true, if_false, encPV] <;> rfl) ?_
   refine pops_to rfl fun M hM => ?_
   simp only [pop, St.eval, constSlot, upd_at, Nat.reduceEqDiff, if_true, if_false, popCall, List.toList_toArray, List.map_cons, List.map_nil, popBuiltin, eq_self, true_and, and_true, str_list, str_size, str_app, str_cut, str_get, encPV]
   refine row_len Tryd.underlying49 ho1 (hM _ _ ?_)
   clear hM M
   refine pops_mv (.inl rfl) rfl (by simp only [St.eval, constSlot] <;> rfl) ?_
   refine pops_done (hR21 _ ?_)
   clear hR21 R21
   try simp only [thenK, scopeK]
   refine hN20 _ ?_
   clear hN20 N20
   refine pwp_block ?_
   refine pwp_loop (fun k σ => ∃ (i : Nat), ∃ (sl : Slot), ∃ (done : List (List UInt8)), (k = (namesR s).length - i) ∧ (i ≤ (namesR s).length) ∧ (done.length = i) ∧ (((namesR s).take i).mapM (decFrom x.kase) = some done) ∧ (Keeps h σ.hp ∧ RowIs 9 1 h σ.hp sl (pstrs (done ++ (namesR s).drop i))) ∧ (σ.env 2 = .sv (.one (.rop (encPV x)))) ∧ (σ.env 1 = .sv (.one (pstr s))) ∧ (σ.env 8 = sl) ∧ (σ.env 28 = sl) ∧ (σ.env 29 = .sv (.one (pint ((pstrs (namesR s)).length : Nat)))) ∧ (σ.env 30 = .sv (.one (pint (i : Nat))))) _ ⟨_, .refl _ _, 0, slr, [], rfl, ?_⟩ ?_
   · exact ⟨Nat.zero_le _, rfl, rfl, ⟨hk1, ho1⟩, by simp only [upd_at, Nat.reduceEqDiff, if_true, if_false, encPV], by simp only [upd_at, Nat.reduceEqDiff, if_true, if_false, encPV], by simp only [upd_at, Nat.reduceEqDiff, if_true, if_false, encPV], by simp only [upd_at, Nat.reduceEqDiff, if_true, if_false, encPV], by simp only [upd_at, Nat.reduceEqDiff, if_true, if_false, encPV], by simp only [upd_at, Nat.reduceEqDiff, if_true, if_false]; rfl⟩
   ·rintro k ⟨e, hp0⟩ ⟨i, sl, done, hk0, hx0_0, hx0_1, hx0_2, sl0, e0_2, e0_1, e0_8, e0_28, e0_29, e0_30⟩
    simp only at sl0 e0_2 e0_1 e0_8 e0_28 e0_29 e0_30
    obtain ⟨hk0, ho⟩ := sl0
    refine pwp_hpok fun hok0 => ?_
    simp only at hok0
    refine pwp_then fun N22 hN22 => ?_
    refine pwp_reg fun R23 hR23 => ?_
    refine pops_to rfl fun M hM => ?_
    simp only [pop, St.eval, constSlot, upd_at, Nat.reduceEqDiff, if_true, if_false, popBin, binK, intK, strK, eqK, eq_self, true_and, and_true, e0_2, e0_1, e0_8, e0_28, e0_29, e0_30, encPV]
    refine hM _ _ ?_
    clear hM M
    refine pops_done (hR23 _ ?_)
    clear hR23 R23
    try simp only [thenK, scopeK]
    refine hN22 _ ?_
    clear hN22 N22
    refine pwp_then fun N24 hN24 => ?_
    refine pwp_cond (by simp only [St.eval, upd_at, Nat.reduceEqDiff, if_true, if_false, e0_2, e0_1, e0_8, e0_28, e0_29, e0_30, encPV] <;> rfl) (fun c31 => ?_) (fun c31 => ?_)
    ·skip
     have hi : i < (namesR s).length := by have := of_decide_eq_true c31; simp only [pstrs, List.length_map] at this; omega
     obtain ⟨n, hx⟩ : ∃ n, (namesR s)[i]? = some n := ⟨_, List.getElem?_eq_getElem hi⟩
     have hnn := name_len (List.mem_of_getElem? hx)
     refine pwp_skip ?_
     try simp only [thenK, scopeK]
     refine hN24 _ ?_
     clear hN24 N24
     refine pwp_then fun N25 hN25 => ?_
     refine pwp_block ?_
     refine pwp_then fun N26 hN26 => ?_
     refine pwp_reg fun R27 hR27 => ?_
     refine pops_mv (.inl rfl) rfl (by simp only [St.eval, upd_at, Nat.reduceEqDiff, if_true, if_false, e0_2, e0_1, e0_8, e0_28, e0_29, e0_30, encPV] <;> rfl) ?_
     refine pops_to rfl fun M hM => ?_
     simp only [pop, St.eval, constSlot, upd_at, Nat.reduceEqDiff, if_true, if_false, eq_self, true_and, and_true, str_list, str_size, str_app, str_cut, str_get, e0_2, e0_1, e0_8, e0_28, e0_29, e0_30, encPV]
     refine row_at Tryd.underlying49 sz9 (ho.same (Same.refl _)) rfl (by rw [mix_len hx0_1 hx0_0]; exact hi) fun id1 ver1 es1 E1 => hM _ _ ?_
     clear hM M
     refine pops_to rfl fun M hM => ?_
     simp only [pop, St.eval, constSlot, upd_at, Nat.reduceEqDiff, if_true, if_false, eq_self, true_and, and_true, e0_2, e0_1, e0_8, e0_28, e0_29, e0_30, encPV]
     refine el_load1 E1 Tryd.underlying9 rfl (mix_get hx0_1 hx) (hM _ _ ?_)
     clear hM M
     refine pops_mv (.inr rfl) rfl (by simp only [St.eval, upd_at, Nat.reduceEqDiff, if_true, if_false, e0_2, e0_1, e0_8, e0_28, e0_29, e0_30, encPV] <;> rfl) ?_
     refine pops_mv (.inr rfl) rfl (by simp only [St.eval, upd_at, Nat.reduceEqDiff, if_true, if_false, e0_2, e0_1, e0_8, e0_28, e0_29, e0_30, encPV] <;> rfl) ?_
     refine pops_done (hR27 _ ?_)
     clear hR27 R27
     try simp only [thenK, scopeK]
     refine hN26 _ ?_
     clear hN26 N26
     refine pwp_then fun N28 hN28 => ?_
     refine pwp_reg fun R29 hR29 => ?_
     refine pops_to rfl fun M hM => ?_
     simp only [pop, St.eval, constSlot, upd_at, Nat.reduceEqDiff, if_true, if_false, List.length_cons, List.length_nil, Nat.zero_add, Nat.reduceAdd, Nat.reduceLeDiff, List.take_zero, List.take_succ_cons, List.take_nil, List.drop_succ_cons, List.drop_zero, List.drop_nil, List.nil_append, List.cons_append, List.append_nil, and_self, List.getElem?_cons_zero, List.getElem?_cons_succ, List.set_cons_zero, List.set_cons_succ, Option.some.injEq, popLoad, loadK, isAggD, List.drop_zero, List.getElem?_toArray, List.getElem?_cons_zero, List.getElem?_cons_succ, Bool.false_eq_true, Tryd.underlying64, sz64, eq_self, true_and, and_true, e0_2, e0_1, e0_8, e0_28, e0_29, e0_30, encPV]
     refine hM _ _ ?_
     clear hM M
     refine pops_mv (.inl rfl) rfl (by simp only [St.eval, upd_at, Nat.reduceEqDiff, if_true, if_false, e0_2, e0_1, e0_8, e0_28, e0_29, e0_30, encPV] <;> rfl) ?_
     refine pops_to rfl fun M hM => ?_
     simp only [pop, St.eval, constSlot, upd_at, Nat.reduceEqDiff, if_true, if_false, popCall, List.toList_toArray, List.map_cons, List.map_nil, svs, List.mapM_cons, List.mapM_nil, Option.bind_eq_bind, Option.bind_some, Option.pure_def, List.append_nil, List.cons_append, List.nil_append, str_size, e0_2, e0_1, e0_8, e0_28, e0_29, e0_30, encPV]
     refine PFun.use (decodeName_fun W0 x n (by omega)) fun h3 s3 => hM _ _ ?_
     replace s3 := Same.trans (Same.refl _) s3
     clear hM M
     refine pops_mv (.inl rfl) rfl (by simp only [St.eval, upd_at, Nat.reduceEqDiff, if_true, if_false, e0_2, e0_1, e0_8, e0_28, e0_29, e0_30, encPV] <;> rfl) ?_
     refine pops_to rfl fun M hM => ?_
     simp only [pop, St.eval, constSlot, upd_at, Nat.reduceEqDiff, if_true, if_false, List.getElem?_toArray, List.getElem?_cons_zero, List.getElem?_cons_succ, e0_2, e0_1, e0_8, e0_28, e0_29, e0_30, encPV]
     refine hM _ _ ?_
     clear hM M
     refine pops_to rfl fun M hM => ?_
     simp only [pop, St.eval, constSlot, upd_at, Nat.reduceEqDiff, if_true, if_false, List.getElem?_toArray, List.getElem?_cons_zero, List.getElem?_cons_succ, e0_2, e0_1, e0_8, e0_28, e0_29, e0_30, encPV]
     refine hM _ _ ?_
     clear hM M
     refine pops_mv (.inr rfl) rfl (by simp only [St.eval, upd_at, Nat.reduceEqDiff, if_true, if_false, e0_2, e0_1, e0_8, e0_28, e0_29, e0_30, encPV] <;> rfl) ?_
     refine pops_mv (.inr rfl) rfl (by simp only [St.eval, upd_at, Nat.reduceEqDiff, if_true, if_false, e0_2, e0_1, e0_8, e0_28, e0_29, e0_30, encPV] <;> rfl) ?_
     refine pops_done (hR29 _ ?_)
     clear hR29 R29
     try simp only [thenK, scopeK]
     refine hN28 _ ?_
     clear hN28 N28
     refine pwp_then fun N30 hN30 => ?_
     refine pwp_then fun N31 hN31 => ?_
     refine pwp_reg fun R32 hR32 => ?_
     refine pops_mv (.inl rfl) rfl (by simp only [St.eval, upd_at, Nat.reduceEqDiff, if_true, if_false, e0_2, e0_1, e0_8, e0_28, e0_29, e0_30, encPV] <;> rfl) ?_
     refine pops_to rfl fun M hM => ?_
     simp only [pop, St.eval, constSlot, upd_at, Nat.reduceEqDiff, if_true, if_false, unK, e0_2, e0_1, e0_8, e0_28, e0_29, e0_30, encPV]
     refine hM _ _ ?_
     clear hM M
     refine pops_done (hR32 _ ?_)
     clear hR32 R32
     try simp only [thenK, scopeK]
     refine hN31 _ ?_
     clear hN31 N31
     refine pwp_cond (by simp only [St.eval, upd_at, Nat.reduceEqDiff, if_true, if_false, e0_2, e0_1, e0_8, e0_28, e0_29, e0_30, encPV] <;> rfl) (fun c42 => ?_) (fun c42 => ?_)
     ·skip
      have hdn : decFrom x.kase n = none := by
        cases hq : decFrom x.kase n with
        | none => rfl
        | some d => simp [decN, hq] at c42
      have he := dp_none (mapM_none (List.mem_of_getElem? hx) hdn)
      refine pwp_then fun N33 hN33 => ?_
      refine pwp_reg fun R34 hR34 => ?_
      refine pops_mv (.inr rfl) rfl (by simp only [St.eval, constSlot] <;> rfl) ?_
      refine pops_mv (.inr rfl) rfl (by simp only [St.eval, constSlot] <;> rfl) ?_
      refine pops_done (hR34 _ ?_)
      clear hR34 R34
      try simp only [thenK, scopeK]
      refine hN33 _ ?_
      clear hN33 N33
      refine pwp_ret ?_
      simp only [thenK, blockK, scopeK, bodyK]
      clear hN30 N30 hN25 N25 hN19 N19
      exact ⟨_, rfl, by rw [decodeR, if_pos hec, decR, if_pos hp, he]; exact endKeeps2 (hk0.trans (Same.keeps s3)) rfl⟩
     ·skip
      have hdn : decFrom x.kase n = some (decN x.kase n).1 := by
        cases hq : decFrom x.kase n with
        | none => simp [decN, hq] at c42
        | some d => simp [decN, hq]
      refine pwp_skip ?_
      try simp only [thenK, scopeK]
      refine hN30 _ ?_
      clear hN30 N30
      refine pwp_reg fun R35 hR35 => ?_
      refine pops_mv (.inl rfl) rfl (by simp only [St.eval, upd_at, Nat.reduceEqDiff, if_true, if_false, e0_2, e0_1, e0_8, e0_28, e0_29, e0_30, encPV] <;> rfl) ?_
      refine pops_mv (.inl rfl) rfl (by simp only [St.eval, upd_at, Nat.reduceEqDiff, if_true, if_false, e0_2, e0_1, e0_8, e0_28, e0_29, e0_30, encPV] <;> rfl) ?_
      refine pops_mv (.inl rfl) rfl (by simp only [St.eval, upd_at, Nat.reduceEqDiff, if_true, if_false, e0_2, e0_1, e0_8, e0_28, e0_29, e0_30, encPV] <;> rfl) ?_
      refine pops_to rfl fun M hM => ?_
      simp only [pop, St.eval, constSlot, upd_at, Nat.reduceEqDiff, if_true, if_false, eq_self, true_and, and_true, str_list, str_size, str_app, str_cut, str_get, e0_2, e0_1, e0_8, e0_28, e0_29, e0_30, encPV]
      refine row_at Tryd.underlying49 sz9 (ho.same s3) rfl (by rw [mix_len hx0_1 hx0_0]; exact hi) fun id2 ver2 es2 E2 => hM _ _ ?_
      clear hM M
      refine pops_no fun M hM => ?_
      simp only [pop, St.eval, constSlot, upd_at, Nat.reduceEqDiff, if_true, if_false, eq_self, true_and, and_true, str_list, str_size, str_app, str_cut, str_get, e0_2, e0_1, e0_8, e0_28, e0_29, e0_30, encPV]
      refine el_store E2 hb (hk0.trans (Same.keeps s3)) (mix_get hx0_1 hx) rfl sz9 (Nat.le_refl 1) fun hp2 ho2 hk2 => hM _ _ ?_
      rw [show splice [pstr n] 0 [pstr (decN x.kase n).1] = [pstr (decN x.kase n).1] from rfl, mix_set hx0_1 hx] at ho2
      clear hM M
      refine pops_done (hR35 _ ?_)
      clear hR35 R35
      try simp only [blockK, thenK, scopeK]
      try simp only [thenK, scopeK]
      refine hN25 _ ?_
      clear hN25 N25
      refine pwp_reg fun R36 hR36 => ?_
      refine pops_to rfl fun M hM => ?_
      simp only [pop, St.eval, constSlot, upd_at, Nat.reduceEqDiff, if_true, if_false, popBin, binK, intK, strK, eqK, eq_self, true_and, and_true, e0_2, e0_1, e0_8, e0_28, e0_29, e0_30, encPV]
      refine hM _ _ ?_
      clear hM M
      refine pops_mv (.inl rfl) rfl (by simp only [St.eval, upd_at, Nat.reduceEqDiff, if_true, if_false, e0_2, e0_1, e0_8, e0_28, e0_29, e0_30, encPV] <;> rfl) ?_
      refine pops_done (hR36 _ ?_)
      clear hR36 R36
      try simp only [thenK, scopeK]
      exact ⟨_, by omega, _, .refl _ _, i + 1, sl, done ++ [(decN x.kase n).1], rfl, by omega, by simp [hx0_1], mapM_step hx hdn hx0_2, ⟨hk2, ho2⟩, by simp only [upd_at, Nat.reduceEqDiff, if_true, if_false, e0_2, e0_1, e0_8, e0_28, e0_29, e0_30, encPV], by simp only [upd_at, Nat.reduceEqDiff, if_true, if_false, e0_2, e0_1, e0_8, e0_28, e0_29, e0_30, encPV], by simp only [upd_at, Nat.reduceEqDiff, if_true, if_false, e0_2, e0_1, e0_8, e0_28, e0_29, e0_30, encPV], by simp only [upd_at, Nat.reduceEqDiff, if_true, if_false, e0_2, e0_1, e0_8, e0_28, e0_29, e0_30, encPV], by simp only [upd_at, Nat.reduceEqDiff, if_true, if_false, e0_2, e0_1, e0_8, e0_28, e0_29, e0_30, encPV], by simp only [upd_at, Nat.reduceEqDiff, if_true, if_false, e0_30]; rw [wrap_succ (by omega)]⟩
    ·skip
     have hi : ¬ i < (namesR s).length := by have := of_decide_eq_false c31; simp only [pstrs, List.length_map] at this; omega
     refine pwp_exit ?_
     try simp only [thenK, blockK, scopeK, if_true, Nat.reduceEqDiff, if_false]
     clear hN24 N24
     try simp only [blockK, scopeK, if_true, Nat.reduceEqDiff, if_false, thenK]
     try simp only [thenK, scopeK]
     refine hN19 _ ?_
     clear hN19 N19
     refine pwp_then fun N37 hN37 => ?_
     rw [List.drop_eq_nil_of_le (by omega), List.append_nil] at ho
     have hfull : (namesR s).mapM (decFrom x.kase) = some done := by rw [← hx0_2, List.take_of_length_le (by omega)]
     obtain ⟨hj1, hj2⟩ := join_mono (dec_len x.kase) _ _ hfull
     rw [namesR_join] at hj2
     refine pwp_freezeRow 8 (by simp only [upd_at, Nat.reduceEqDiff, if_true, if_false, e0_8]) ho hb hk0 fun hp9 hk9 => ?_
     refine pwp_reg fun R38 hR38 => ?_
     refine pops_mv (.inl rfl) rfl (by simp only [St.eval, upd_at, Nat.reduceEqDiff, if_true, if_false, e0_2, e0_1, e0_8, e0_28, e0_29, e0_30, encPV] <;> rfl) ?_
     refine pops_to rfl fun M hM => ?_
     simp only [pop, St.eval, constSlot, upd_at, Nat.reduceEqDiff, if_true, if_false, popCall, List.toList_toArray, List.map_cons, List.map_nil, svs, List.mapM_cons, List.mapM_nil, Option.bind_eq_bind, Option.bind_some, Option.pure_def, List.append_nil, List.cons_append, List.nil_append, str_size, e0_2, e0_1, e0_8, e0_28, e0_29, e0_30, encPV]
     refine PFun.use (join_fun W0 false done (by omega) (by omega)) fun h4 s4 => hM _ _ ?_
     replace s4 := Same.trans (Same.refl _) s4
     clear hM M
     refine pops_mv (.inr rfl) rfl (by simp only [St.eval, upd_at, Nat.reduceEqDiff, if_true, if_false, e0_2, e0_1, e0_8, e0_28, e0_29, e0_30, encPV] <;> rfl) ?_
     refine pops_done (hR38 _ ?_)
     clear hR38 R38
     try simp only [thenK, scopeK]
     refine hN37 _ ?_
     clear hN37 N37
     refine pwp_then fun N39 hN39 => ?_
     refine pwp_then fun N40 hN40 => ?_
     refine pwp_reg fun R41 hR41 => ?_
     refine pops_mv (.inl rfl) rfl (by simp only [St.eval, upd_at, Nat.reduceEqDiff, if_true, if_false, e0_2, e0_1, e0_8, e0_28, e0_29, e0_30, encPV] <;> rfl) ?_
     refine pops_to rfl fun M hM => ?_
     simp only [pop, St.eval, constSlot, upd_at, Nat.reduceEqDiff, if_true, if_false, popCall, List.toList_toArray, List.map_cons, List.map_nil, svs, List.mapM_cons, List.mapM_nil, Option.bind_eq_bind, Option.bind_some, Option.pure_def, List.append_nil, List.cons_append, List.nil_append, str_size, e0_2, e0_1, e0_8, e0_28, e0_29, e0_30, encPV]
     refine PFun.use (names_split_fun W0 hm _ (by omega)) fun h5 s5 => hM _ _ ?_
     replace s5 := Same.trans s4 s5
     clear hM M
     refine pops_to rfl fun M hM => ?_
     simp only [pop, St.eval, constSlot, upd_at, Nat.reduceEqDiff, if_true, if_false, popCall, List.toList_toArray, List.map_cons, List.map_nil, popBuiltin, popLen, lenOfSlot, List.length_map, Tryd.underlying49, eq_self, true_and, and_true, str_list, str_size, str_app, str_cut, str_get, e0_2, e0_1, e0_8, e0_28, e0_29, e0_30, encPV]
     refine hM _ _ ?_
     clear hM M
     refine pops_mv (.inl rfl) rfl (by simp only [St.eval, upd_at, Nat.reduceEqDiff, if_true, if_false, e0_2, e0_1, e0_8, e0_28, e0_29, e0_30, encPV] <;> rfl) ?_
     refine pops_to rfl fun M hM => ?_
     simp only [pop, St.eval, constSlot, upd_at, Nat.reduceEqDiff, if_true, if_false, popCall, List.toList_toArray, List.map_cons, List.map_nil, popBuiltin, popLen, lenOfSlot, List.length_map, Tryd.underlying49, eq_self, true_and, and_true, str_list, str_size, str_app, str_cut, str_get, e0_2, e0_1, e0_8, e0_28, e0_29, e0_30, encPV]
     refine hM _ _ ?_
     clear hM M
     refine pops_to rfl fun M hM => ?_
     simp only [pop, St.eval, constSlot, upd_at, Nat.reduceEqDiff, if_true, if_false, popBin, binK, intK, strK, eqK, Tryd.underlying3, isPtr, eq_self, true_and, and_true, e0_2, e0_1, e0_8, e0_28, e0_29, e0_30, encPV]
     refine hM _ _ ?_
     clear hM M
     refine pops_mv (.inl rfl) rfl (by simp only [St.eval, upd_at, Nat.reduceEqDiff, if_true, if_false, e0_2, e0_1, e0_8, e0_28, e0_29, e0_30, encPV] <;> rfl) ?_
     apply pops_or 4 56 60 [57, 58, 59] (by simp only [upd_at, Nat.reduceEqDiff, if_true, if_false, e0_2, e0_1, e0_8, e0_28, e0_29, e0_30, encPV] <;> rfl)
     ·skip
      intro g56_0 J42 hJ42
      simp only [List.take_succ_cons, List.take_zero]
      simp only [anyAt_cons, anyAt_nil] at hJ42
      refine pops_mvg (.inl rfl) rfl rfl (by simp only [upd_at, Nat.reduceEqDiff, if_true, if_false, e0_2, e0_1, e0_8, e0_28, e0_29, e0_30, encPV, g56_0]) (by simp only [St.eval, upd_at, Nat.reduceEqDiff, if_true, if_false, e0_2, e0_1, e0_8, e0_28, e0_29, e0_30, encPV, g56_0] <;> rfl) ?_
      refine pops_do rfl rfl (by simp only [upd_at, Nat.reduceEqDiff, if_true, if_false, e0_2, e0_1, e0_8, e0_28, e0_29, e0_30, encPV, g56_0]) fun M hM => ?_
      simp only [pop, St.eval, constSlot, upd_at, Nat.reduceEqDiff, if_true, if_false, popCall, List.toList_toArray, List.map_cons, List.map_nil, svs, List.mapM_cons, List.mapM_nil, Option.bind_eq_bind, Option.bind_some, Option.pure_def, List.append_nil, List.cons_append, List.nil_append, str_size, e0_2, e0_1, e0_8, e0_28, e0_29, e0_30, encPV, g56_0]
      refine PFun.use (check_fun W0 hm isNameB _ (fun y _ => isName_fun W0 y)) fun h6 s6 => hM _ _ ?_
      replace s6 := Same.trans (Same.refl _) s6
      clear hM M
      refine pops_do rfl rfl (by simp only [upd_at, Nat.reduceEqDiff, if_true, if_false, e0_2, e0_1, e0_8, e0_28, e0_29, e0_30, encPV, g56_0]) fun M hM => ?_
      simp only [pop, St.eval, constSlot, upd_at, Nat.reduceEqDiff, if_true, if_false, popBin, binK, intK, strK, eqK, Tryd.underlying31, isPtr, eq_self, true_and, and_true, e0_2, e0_1, e0_8, e0_28, e0_29, e0_30, encPV, g56_0]
      refine hM _ _ ?_
      clear hM M
      refine pops_to rfl fun M hM => ?_
      simp only [pop, St.eval, constSlot, upd_at, Nat.reduceEqDiff, if_true, if_false, popIf, true_implies, false_implies, Bool.true_eq_false, Bool.false_eq_true, reduceCtorEq, true_and, and_true, e0_2, e0_1, e0_8, e0_28, e0_29, e0_30, encPV, g56_0]
      refine hM _ _ ?_
      clear hM M
      exact pops_done (hJ42 _ _ s6 (wk_same (wk_any ((wk_any ((wk_any (Wk.refl _ _))))))))
     ·skip
      intro g56_0 J42 hJ42
      simp only [List.take_succ_cons, List.take_zero]
      simp only [anyAt_cons, anyAt_nil] at hJ42
      refine pops_off (b := true) rfl rfl (by simp only [upd_at, Nat.reduceEqDiff, if_true, if_false, e0_2, e0_1, e0_8, e0_28, e0_29, e0_30, encPV, g56_0]) (by decide) ?_
      refine pops_off (b := true) rfl rfl (by simp only [upd_at, Nat.reduceEqDiff, if_true, if_false, e0_2, e0_1, e0_8, e0_28, e0_29, e0_30, encPV, g56_0]) (by decide) ?_
      refine pops_off (b := true) rfl rfl (by simp only [upd_at, Nat.reduceEqDiff, if_true, if_false, e0_2, e0_1, e0_8, e0_28, e0_29, e0_30, encPV, g56_0]) (by decide) ?_
      refine pops_to rfl fun M hM => ?_
      simp only [pop, St.eval, constSlot, upd_at, Nat.reduceEqDiff, if_true, if_false, popIf, true_implies, false_implies, Bool.true_eq_false, Bool.false_eq_true, reduceCtorEq, true_and, and_true, e0_2, e0_1, e0_8, e0_28, e0_29, e0_30, encPV, g56_0]
      refine hM _ _ ?_
      clear hM M
      exact pops_done (hJ42 _ _ (Same.refl _) (wk_same (wk_any ((wk_any ((wk_any (Wk.refl _ _))))))))
     simp only [List.drop_succ_cons, List.drop_zero, anyAt_cons, anyAt_nil]
     intro hj42 sj42
     replace sj42 := Same.trans s5 sj42
     refine pops_done (hR41 _ ?_)
     clear hR41 R41
     try simp only [thenK, scopeK]
     refine hN40 _ ?_
     clear hN40 N40
     refine pwp_cond (by simp only [St.eval, upd_at, Nat.reduceEqDiff, if_true, if_false, e0_2, e0_1, e0_8, e0_28, e0_29, e0_30, encPV] <;> rfl) (fun c60 => ?_) (fun c60 => ?_)
     ·skip
      have he := dp_bad hfull (by
        by_cases h1 : (namesR (Lib.join done [47])).length = done.length
        · refine .inr (.inl ?_)
          cases h2 : isPathB (Lib.join done [47]) with
          | false => rfl
          | true => rw [checkR_eq, h2] at c60; simp [h1] at c60
        · exact .inl h1)
      refine pwp_then fun N43 hN43 => ?_
      refine pwp_reg fun R44 hR44 => ?_
      refine pops_mv (.inr rfl) rfl (by simp only [St.eval, constSlot] <;> rfl) ?_
      refine pops_mv (.inr rfl) rfl (by simp only [St.eval, constSlot] <;> rfl) ?_
      refine pops_done (hR44 _ ?_)
      clear hR44 R44
      try simp only [thenK, scopeK]
      refine hN43 _ ?_
      clear hN43 N43
      refine pwp_ret ?_
      simp only [thenK, blockK, scopeK, bodyK]
      clear hN39 N39
      exact ⟨_, rfl, by rw [decodeR, if_pos hec, decR, if_pos hp, he]; exact endKeeps2 (hk9.trans (Same.keeps sj42)) rfl⟩
     ·skip
      have hj3 : (namesR (Lib.join done [47])).length = done.length ∧ isPathB (Lib.join done [47]) = true := by
        cases h2 : isPathB (Lib.join done [47]) with
        | false => rw [checkR_eq, h2] at c60; simp at c60
        | true => rw [checkR_eq, h2] at c60; simp at c60; exact ⟨by omega, rfl⟩
      refine pwp_skip ?_
      try simp only [thenK, scopeK]
      refine hN39 _ ?_
      clear hN39 N39
      refine pwp_then fun N45 hN45 => ?_
      refine pwp_then fun N46 hN46 => ?_
      refine pwp_reg fun R47 hR47 => ?_
      refine pops_to rfl fun M hM => ?_
      simp only [pop, St.eval, constSlot, upd_at, Nat.reduceEqDiff, if_true, if_false, List.length_cons, List.length_nil, Nat.zero_add, Nat.reduceAdd, Nat.reduceLeDiff, List.take_zero, List.take_succ_cons, List.take_nil, List.drop_succ_cons, List.drop_zero, List.drop_nil, List.nil_append, List.cons_append, List.append_nil, and_self, List.getElem?_cons_zero, List.getElem?_cons_succ, List.set_cons_zero, List.set_cons_succ, Option.some.injEq, popLoad, loadK, isAggD, List.drop_zero, List.getElem?_toArray, List.getElem?_cons_zero, List.getElem?_cons_succ, Bool.false_eq_true, Tryd.underlying64, sz64, eq_self, true_and, and_true, e0_2, e0_1, e0_8, e0_28, e0_29, e0_30, encPV]
      refine hM _ _ ?_
      clear hM M
      refine pops_mv (.inl rfl) rfl (by simp only [St.eval, upd_at, Nat.reduceEqDiff, if_true, if_false, e0_2, e0_1, e0_8, e0_28, e0_29, e0_30, encPV] <;> rfl) ?_
      refine pops_to rfl fun M hM => ?_
      simp only [pop, St.eval, constSlot, upd_at, Nat.reduceEqDiff, if_true, if_false, popCall, List.toList_toArray, List.map_cons, List.map_nil, svs, List.mapM_cons, List.mapM_nil, Option.bind_eq_bind, Option.bind_some, Option.pure_def, List.append_nil, List.cons_append, List.nil_append, str_size, e0_2, e0_1, e0_8, e0_28, e0_29, e0_30, encPV]
      refine PFun.use (encodePath_fun W0 hm x _ hnl (by omega) hsd) fun h7 s7 => hM _ _ ?_
      replace s7 := Same.trans sj42 s7
      clear hM M
      refine pops_mv (.inl rfl) rfl (by simp only [St.eval, upd_at, Nat.reduceEqDiff, if_true, if_false, e0_2, e0_1, e0_8, e0_28, e0_29, e0_30, encPV] <;> rfl) ?_
      refine pops_to rfl fun M hM => ?_
      simp only [pop, St.eval, constSlot, upd_at, Nat.reduceEqDiff, if_true, if_false, List.getElem?_toArray, List.getElem?_cons_zero, List.getElem?_cons_succ, e0_2, e0_1, e0_8, e0_28, e0_29, e0_30, encPV]
      refine hM _ _ ?_
      clear hM M
      refine pops_to rfl fun M hM => ?_
      simp only [pop, St.eval, constSlot, upd_at, Nat.reduceEqDiff, if_true, if_false, List.getElem?_toArray, List.getElem?_cons_zero, List.getElem?_cons_succ, e0_2, e0_1, e0_8, e0_28, e0_29, e0_30, encPV]
      refine hM _ _ ?_
      clear hM M
      refine pops_mv (.inr rfl) rfl (by simp only [St.eval, upd_at, Nat.reduceEqDiff, if_true, if_false, e0_2, e0_1, e0_8, e0_28, e0_29, e0_30, encPV] <;> rfl) ?_
      refine pops_mv (.inr rfl) rfl (by simp only [St.eval, upd_at, Nat.reduceEqDiff, if_true, if_false, e0_2, e0_1, e0_8, e0_28, e0_29, e0_30, encPV] <;> rfl) ?_
      refine pops_done (hR47 _ ?_)
      clear hR47 R47
      try simp only [thenK, scopeK]
      refine hN46 _ ?_
      clear hN46 N46
      refine pwp_then fun N48 hN48 => ?_
      refine pwp_reg fun R49 hR49 => ?_
      refine pops_mv (.inl rfl) rfl (by simp only [St.eval, upd_at, Nat.reduceEqDiff, if_true, if_false, e0_2, e0_1, e0_8, e0_28, e0_29, e0_30, encPV] <;> rfl) ?_
      refine pops_to rfl fun M hM => ?_
      simp only [pop, St.eval, constSlot, upd_at, Nat.reduceEqDiff, if_true, if_false, popBin, binK, intK, strK, eqK, Tryd.underlying31, isPtr, eq_self, true_and, and_true, e0_2, e0_1, e0_8, e0_28, e0_29, e0_30, encPV]
      refine hM _ _ ?_
      clear hM M
      refine pops_mv (.inl rfl) rfl (by simp only [St.eval, upd_at, Nat.reduceEqDiff, if_true, if_false, e0_2, e0_1, e0_8, e0_28, e0_29, e0_30, encPV] <;> rfl) ?_
      apply pops_or0 4 69 73 [70, 71, 72] (by simp only [upd_at, Nat.reduceEqDiff, if_true, if_false, e0_2, e0_1, e0_8, e0_28, e0_29, e0_30, encPV] <;> rfl)
      ·skip
       intro g69_0 J50 hJ50
       simp only [List.take_succ_cons, List.take_zero]
       simp only [anyAt_cons, anyAt_nil] at hJ50
       refine pops_mvg (.inl rfl) rfl rfl (by simp only [upd_at, Nat.reduceEqDiff, if_true, if_false, e0_2, e0_1, e0_8, e0_28, e0_29, e0_30, encPV, g69_0]) (by simp only [St.eval, upd_at, Nat.reduceEqDiff, if_true, if_false, e0_2, e0_1, e0_8, e0_28, e0_29, e0_30, encPV, g69_0] <;> rfl) ?_
       refine pops_mvg (.inl rfl) rfl rfl (by simp only [upd_at, Nat.reduceEqDiff, if_true, if_false, e0_2, e0_1, e0_8, e0_28, e0_29, e0_30, encPV, g69_0]) (by simp only [St.eval, upd_at, Nat.reduceEqDiff, if_true, if_false, e0_2, e0_1, e0_8, e0_28, e0_29, e0_30, encPV, g69_0] <;> rfl) ?_
       refine pops_do rfl rfl (by simp only [upd_at, Nat.reduceEqDiff, if_true, if_false, e0_2, e0_1, e0_8, e0_28, e0_29, e0_30, encPV, g69_0]) fun M hM => ?_
       simp only [pop, St.eval, constSlot, upd_at, Nat.reduceEqDiff, if_true, if_false, popBin, binK, intK, strK, eqK, Tryd.underlying9, isPtr, eq_self, true_and, and_true, str_list, str_size, str_app, str_cut, str_get, e0_2, e0_1, e0_8, e0_28, e0_29, e0_30, encPV, g69_0]
       refine hM _ _ ?_
       clear hM M
       refine pops_to rfl fun M hM => ?_
       simp only [pop, St.eval, constSlot, upd_at, Nat.reduceEqDiff, if_true, if_false, popIf, true_implies, false_implies, Bool.true_eq_false, Bool.false_eq_true, reduceCtorEq, true_and, and_true, e0_2, e0_1, e0_8, e0_28, e0_29, e0_30, encPV, g69_0]
       refine hM _ _ ?_
       clear hM M
       exact pops_done (hJ50 _ (wk_same (wk_any ((wk_any ((wk_any (Wk.refl _ _))))))))
      ·skip
       intro g69_0 J50 hJ50
       simp only [List.take_succ_cons, List.take_zero]
       simp only [anyAt_cons, anyAt_nil] at hJ50
       refine pops_off (b := true) rfl rfl (by simp only [upd_at, Nat.reduceEqDiff, if_true, if_false, e0_2, e0_1, e0_8, e0_28, e0_29, e0_30, encPV, g69_0]) (by decide) ?_
       refine pops_off (b := true) rfl rfl (by simp only [upd_at, Nat.reduceEqDiff, if_true, if_false, e0_2, e0_1, e0_8, e0_28, e0_29, e0_30, encPV, g69_0]) (by decide) ?_
       refine pops_off (b := true) rfl rfl (by simp only [upd_at, Nat.reduceEqDiff, if_true, if_false, e0_2, e0_1, e0_8, e0_28, e0_29, e0_30, encPV, g69_0]) (by decide) ?_
       refine pops_to rfl fun M hM => ?_
       simp only [pop, St.eval, constSlot, upd_at, Nat.reduceEqDiff, if_true, if_false, popIf, true_implies, false_implies, Bool.true_eq_false, Bool.false_eq_true, reduceCtorEq, true_and, and_true, e0_2, e0_1, e0_8, e0_28, e0_29, e0_30, encPV, g69_0]
       refine hM _ _ ?_
       clear hM M
       exact pops_done (hJ50 _ (wk_same (wk_any ((wk_any ((wk_any (Wk.refl _ _))))))))
      simp only [List.drop_succ_cons, List.drop_zero, anyAt_cons, anyAt_nil]
      refine pops_done (hR49 _ ?_)
      clear hR49 R49
      try simp only [thenK, scopeK]
      refine hN48 _ ?_
      clear hN48 N48
      refine pwp_cond (by simp only [St.eval, upd_at, Nat.reduceEqDiff, if_true, if_false, e0_2, e0_1, e0_8, e0_28, e0_29, e0_30, encPV] <;> rfl) (fun c73 => ?_) (fun c73 => ?_)
      ·skip
       have he := dp_bad hfull (.inr (.inr fun h1 => by rw [h1] at c73; simp at c73))
       refine pwp_then fun N51 hN51 => ?_
       refine pwp_reg fun R52 hR52 => ?_
       refine pops_mv (.inr rfl) rfl (by simp only [St.eval, constSlot] <;> rfl) ?_
       refine pops_mv (.inr rfl) rfl (by simp only [St.eval, constSlot] <;> rfl) ?_
       refine pops_done (hR52 _ ?_)
       clear hR52 R52
       try simp only [thenK, scopeK]
       refine hN51 _ ?_
       clear hN51 N51
       refine pwp_ret ?_
       simp only [thenK, blockK, scopeK, bodyK]
       clear hN45 N45
       exact ⟨_, rfl, by rw [decodeR, if_pos hec, decR, if_pos hp, he]; exact endKeeps2 (hk9.trans (Same.keeps s7)) rfl⟩
      ·skip
       have he := dp_ok hfull hj3.1 hj3.2 (by simp at c73; exact Prod.ext c73.2 c73.1)
       refine pwp_skip ?_
       try simp only [thenK, scopeK]
       refine hN45 _ ?_
       clear hN45 N45
       refine pwp_then fun N53 hN53 => ?_
       refine pwp_reg fun R54 hR54 => ?_
       refine pops_mv (.inl rfl) rfl (by simp only [St.eval, upd_at, Nat.reduceEqDiff, if_true, if_false, e0_2, e0_1, e0_8, e0_28, e0_29, e0_30, encPV] <;> rfl) ?_
       refine pops_mv (.inr rfl) rfl (by simp only [St.eval, upd_at, Nat.reduceEqDiff, if_true, if_false, e0_2, e0_1, e0_8, e0_28, e0_29, e0_30, encPV] <;> rfl) ?_
       refine pops_mv (.inr rfl) rfl (by simp only [St.eval, constSlot] <;> rfl) ?_
       refine pops_done (hR54 _ ?_)
       clear hR54 R54
       try simp only [thenK, scopeK]
       refine hN53 _ ?_
       clear hN53 N53
       refine pwp_ret ?_
       simp only [thenK, blockK, scopeK, bodyK]
       exact ⟨_, rfl, by rw [decodeR, if_pos hec, decR, if_pos hp, he]; exact endKeeps2 (hk9.trans (Same.keeps s7)) rfl⟩
end Go.Pw
