import Derived.Test.YtjhgmempnhjflaaDoorEncD
import Derived.Test.YtjhgmempnhjflaaDoorEncC2
namespace Go.Pw
open Go Go.RowKit Go.Proofs
set_option maxRecDepth 100000
set_option linter.unusedSimpArgs false
set_option linter.unusedVariables false
theorem nm87 : (Tryd.f87.name == "runtime.NumGoroutine") = false := by kernel_rfl
theorem namesOf_fun (W0 : World) (hm : HasMax W0) (s : List UInt8) (hl : s.length ≤ 1024) :
  PFun Tryd.prog W0 87 [.one (pstr s)] (.sv (.one (.ro true 1 (pstrs (namesR s))))) := by
 intro h
 refine pcalls1 (n := 7) Tryd.func87 rfl nm87 rfl fun hb => ?_
 refine pwp_then fun N1 hN1 => ?_
 refine pwp_reg fun R2 hR2 => ?_
 refine pops_to rfl fun M hM => ?_
 simp only [pop, St.eval, constSlot, upd_at, Nat.reduceEqDiff, if_true, if_false, eq_self, true_and, and_true, str_list, str_size, str_app, str_cut, str_get]
 refine hM _ _ ?_
 clear hM M
 refine pops_done (hR2 _ ?_)
 clear hR2 R2
 try simp only [thenK, scopeK]
 refine hN1 _ ?_
 clear hN1 N1
 refine pwp_then fun N3 hN3 => ?_
 refine pwp_then fun N4 hN4 => ?_
 refine pwp_reg fun R5 hR5 => ?_
 refine pops_to rfl fun M hM => ?_
 simp only [pop, St.eval, constSlot, upd_at, Nat.reduceEqDiff, if_true, if_false, eq_self, true_and, and_true, str_list, str_size, str_app, str_cut, str_get]
 refine hM _ _ ?_
 clear hM M
 refine pops_to rfl fun M hM => ?_
 simp only [pop, St.eval, constSlot, upd_at, Nat.reduceEqDiff, if_true, if_false, popBin, binK, intK, strK, eqK, Tryd.underlying9, isPtr, eq_self, true_and, and_true, str_list, str_size, str_app, str_cut, str_get]
 refine hM _ _ ?_
 clear hM M
 refine pops_done (hR5 _ ?_)
 clear hR5 R5
 try simp only [thenK, scopeK]
 refine hN4 _ ?_
 clear hN4 N4
 refine pwp_cond (by simp only [St.eval, upd_at, Nat.reduceEqDiff, if_true, if_false] <;> rfl) (fun c4 => ?_) (fun c4 => ?_)
 ·skip
  have hs : s = [] := by simpa using c4
  refine pwp_then fun N6 hN6 => ?_
  refine pwp_reg fun R7 hR7 => ?_
  refine pops_to rfl fun M hM => ?_
  simp only [pop, St.eval, constSlot, upd_at, Nat.reduceEqDiff, if_true, if_false, eq_self, true_and, and_true, str_list, str_size, str_app, str_cut, str_get]
  refine hM _ _ ?_
  clear hM M
  refine pops_done (hR7 _ ?_)
  clear hR7 R7
  try simp only [thenK, scopeK]
  refine hN6 _ ?_
  clear hN6 N6
  refine pwp_ret ?_
  simp only [thenK, blockK, scopeK, bodyK]
  clear hN3 N3
  refine ⟨_, rfl, _, _, .nil1 1, ?_, .refl _⟩
  rw [namesR, if_pos hs]
  rfl
 ·skip
  have hs : ¬ s = [] := by simpa using c4
  refine pwp_skip ?_
  try simp only [thenK, scopeK]
  refine hN3 _ ?_
  clear hN3 N3
  refine pwp_then fun N8 hN8 => ?_
  refine pwp_reg fun R9 hR9 => ?_
  refine pops_to rfl fun M hM => ?_
  simp only [pop, St.eval, constSlot, upd_at, Nat.reduceEqDiff, if_true, if_false, eq_self, true_and, and_true, str_list, str_size, str_app, str_cut, str_get]
  refine hM _ _ ?_
  clear hM M
  refine pops_to rfl fun M hM => ?_
  simp only [pop, St.eval, constSlot, upd_at, Nat.reduceEqDiff, if_true, if_false, popCall, List.toList_toArray, List.map_cons, List.map_nil, svs, List.mapM_cons, List.mapM_nil, Option.bind_eq_bind, Option.bind_some, Option.pure_def, List.append_nil, List.cons_append, List.nil_append, eq_self, true_and, and_true, str_list, str_size, str_app, str_cut, str_get]
  refine PFun.use (split_fun W0 hm s 47 (by omega)) fun h1 s1 => hM _ _ ?_
  replace s1 := Same.trans (Same.refl _) s1
  clear hM M
  refine pops_to rfl fun M hM => ?_
  simp only [pop, St.eval, constSlot, upd_at, Nat.reduceEqDiff, if_true, if_false, eq_self, true_and, and_true, str_list, str_size, str_app, str_cut, str_get]
  refine hM _ _ ?_
  clear hM M
  refine pops_done (hR9 _ ?_)
  clear hR9 R9
  try simp only [thenK, scopeK]
  refine hN8 _ ?_
  clear hN8 N8
  refine pwp_ret ?_
  simp only [thenK, blockK, scopeK, bodyK]
  refine ⟨_, rfl, endFun s1 ?_⟩
  try simp only [upd_at, Nat.reduceEqDiff, if_true, if_false]
  all_goals
   rw [namesR, if_neg hs]

theorem nm49 : (Tryd.f49.name == "runtime.NumGoroutine") = false := by kernel_rfl
set_option maxHeartbeats 2000000 in
theorem encRefPath_fun (W0 : World) (hm : HasMax W0) (x : Enc) (s : List UInt8) (hnl : x.names.length ≤ 9223372036854775807) :
  PFun Tryd.prog W0 49 [.agg (encPV x), .one (pstr s)] (.tup [.one (pstr (encR x s).1), .one (pint (encR x s).2)]) := by
 intro h
 have hnn2 := namesR_len s
 refine pcalls2 (n := 43) Tryd.func49 rfl nm49 rfl fun hb => ?_
 refine pwp_then fun N1 hN1 => ?_
 refine pwp_reg fun R2 hR2 => ?_
 refine pops_to rfl fun M hM => ?_
 simp only [pop, St.eval, constSlot, upd_at, Nat.reduceEqDiff, if_true, if_false, popBox, popBoxRo, slotCells, encPV]
 refine .inr ⟨Nat.succ_pos _, hM _ _ ?_⟩
 clear hM M
 refine pops_mv (.inr rfl) rfl (by simp only [St.eval, constSlot] <;> rfl) ?_
 refine pops_mv (.inr rfl) rfl (by simp only [St.eval, constSlot] <;> rfl) ?_
 refine pops_done (hR2 _ ?_)
 clear hR2 R2
 try simp only [thenK, scopeK]
 refine hN1 _ ?_
 clear hN1 N1
 refine pwp_then fun N3 hN3 => ?_
 refine pwp_then fun N4 hN4 => ?_
 refine pwp_reg fun R5 hR5 => ?_
 refine pops_mv (.inl rfl) rfl (by simp only [St.eval, upd_at, Nat.reduceEqDiff, if_true, if_false, encPV] <;> rfl) ?_
 refine pops_to rfl fun M hM => ?_
 simp only [pop, St.eval, constSlot, upd_at, Nat.reduceEqDiff, if_true, if_false, popCall, List.toList_toArray, List.map_cons, List.map_nil, svs, List.mapM_cons, List.mapM_nil, Option.bind_eq_bind, Option.bind_some, Option.pure_def, List.append_nil, List.cons_append, List.nil_append, str_size, encPV]
 refine PFun.use (isPath_fun W0 hm s) fun h1 s1 => hM _ _ ?_
 replace s1 := Same.trans (Same.refl _) s1
 clear hM M
 refine pops_to rfl fun M hM => ?_
 simp only [pop, St.eval, constSlot, upd_at, Nat.reduceEqDiff, if_true, if_false, unK, encPV]
 refine hM _ _ ?_
 clear hM M
 refine pops_done (hR5 _ ?_)
 clear hR5 R5
 try simp only [thenK, scopeK]
 refine hN4 _ ?_
 clear hN4 N4
 refine pwp_cond (by simp only [St.eval, upd_at, Nat.reduceEqDiff, if_true, if_false, encPV] <;> rfl) (fun c12 => ?_) (fun c12 => ?_)
 ·skip
  have hp : isPathB s = false := by simpa using c12
  have he : encR x s = ([], 1) := by rw [encR, hp]; rfl
  refine pwp_then fun N6 hN6 => ?_
  refine pwp_reg fun R7 hR7 => ?_
  refine pops_mv (.inr rfl) rfl (by simp only [St.eval, constSlot] <;> rfl) ?_
  refine pops_mv (.inr rfl) rfl (by simp only [St.eval, constSlot] <;> rfl) ?_
  refine pops_done (hR7 _ ?_)
  clear hR7 R7
  try simp only [thenK, scopeK]
  refine hN6 _ ?_
  clear hN6 N6
  refine pwp_ret ?_
  simp only [thenK, blockK, scopeK, bodyK]
  clear hN3 N3
  exact ⟨_, rfl, by rw [he]; exact endKeeps2 (Same.keeps s1) rfl⟩
 ·skip
  have hp : isPathB s = true := by simpa using c12
  have hs := isPathB_len hp
  have hpe : encR x s = encPath x s := by rw [encR, if_pos hp]
  refine pwp_skip ?_
  try simp only [thenK, scopeK]
  refine hN3 _ ?_
  clear hN3 N3
  refine pwp_then fun N8 hN8 => ?_
  refine pwp_reg fun R9 hR9 => ?_
  refine pops_mv (.inr rfl) rfl (by simp only [St.eval, constSlot] <;> rfl) ?_
  refine pops_done (hR9 _ ?_)
  clear hR9 R9
  try simp only [thenK, scopeK]
  refine hN8 _ ?_
  clear hN8 N8
  refine pwp_then fun N10 hN10 => ?_
  refine pwp_then fun N11 hN11 => ?_
  refine pwp_reg fun R12 hR12 => ?_
  refine pops_mv (.inl rfl) rfl (by simp only [St.eval, upd_at, Nat.reduceEqDiff, if_true, if_false, encPV] <;> rfl) ?_
  refine pops_to rfl fun M hM => ?_
  simp only [pop, St.eval, constSlot, upd_at, Nat.reduceEqDiff, if_true, if_false, popCall, List.toList_toArray, List.map_cons, List.map_nil, svs, List.mapM_cons, List.mapM_nil, Option.bind_eq_bind, Option.bind_some, Option.pure_def, List.append_nil, List.cons_append, List.nil_append, str_size, encPV]
  refine PFun.use (namesOf_fun W0 hm s hs) fun h2 s2 => hM _ _ ?_
  replace s2 := Same.trans s1 s2
  clear hM M
  refine pops_to rfl fun M hM => ?_
  simp only [pop, St.eval, constSlot, upd_at, Nat.reduceEqDiff, if_true, if_false, popCall, List.toList_toArray, List.map_cons, List.map_nil, popBuiltin, popLen, lenOfSlot, List.length_map, Tryd.underlying49, eq_self, true_and, and_true, str_list, str_size, str_app, str_cut, str_get, encPV]
  refine hM _ _ ?_
  clear hM M
  refine pops_mv (.inl rfl) rfl (by simp only [St.eval, constSlot] <;> rfl) ?_
  refine pops_done (hR12 _ ?_)
  clear hR12 R12
  try simp only [thenK, scopeK]
  refine hN11 _ ?_
  clear hN11 N11
  refine pwp_block ?_
  refine pwp_loop (fun k σ => ∃ (i : Nat), ∃ (sl : Slot), (k = (namesR s).length - i) ∧ (i ≤ (namesR s).length) ∧ (∀ y ∈ (namesR s).take i, ((encName x y).length : Int) ≤ x.maxName) ∧ (Keeps h σ.hp ∧ RowIs 9 1 h σ.hp sl (pstrs ((encsL x s).take i))) ∧ (σ.env 2 = .sv (.one (.rop (encPV x)))) ∧ (σ.env 6 = sl) ∧ (σ.env 14 = .sv (.one (.ro true 1 (pstrs (namesR s))))) ∧ (σ.env 15 = .sv (.one (pint ((namesR s).length : Nat)))) ∧ (σ.env 16 = .sv (.one (pint (i : Nat))))) _ ⟨_, .refl _ _, 0, (.sv (.one (.val (.slice none 0 0)))), rfl, ?_⟩ ?_
  · exact ⟨Nat.zero_le _, by simp, ⟨Same.keeps s2, .nil _ _ _ _⟩, by simp only [upd_at, Nat.reduceEqDiff, if_true, if_false, encPV], by simp only [upd_at, Nat.reduceEqDiff, if_true, if_false, encPV], by simp only [upd_at, Nat.reduceEqDiff, if_true, if_false, encPV], by simp only [upd_at, Nat.reduceEqDiff, if_true, if_false, encPV], by simp only [upd_at, Nat.reduceEqDiff, if_true, if_false]; rfl⟩
  ·rintro k ⟨e, hp0⟩ ⟨i, sl, hk0, hx0_0, hx0_1, sl0, e0_2, e0_6, e0_14, e0_15, e0_16⟩
   simp only at sl0 e0_2 e0_6 e0_14 e0_15 e0_16
   obtain ⟨hk0, ho⟩ := sl0
   refine pwp_hpok fun hok0 => ?_
   simp only at hok0
   refine pwp_then fun N13 hN13 => ?_
   refine pwp_reg fun R14 hR14 => ?_
   refine pops_to rfl fun M hM => ?_
   simp only [pop, St.eval, constSlot, upd_at, Nat.reduceEqDiff, if_true, if_false, popBin, binK, intK, strK, eqK, eq_self, true_and, and_true, e0_2, e0_6, e0_14, e0_15, e0_16, encPV]
   refine hM _ _ ?_
   clear hM M
   refine pops_done (hR14 _ ?_)
   clear hR14 R14
   try simp only [thenK, scopeK]
   refine hN13 _ ?_
   clear hN13 N13
   refine pwp_then fun N15 hN15 => ?_
   refine pwp_cond (by simp only [St.eval, upd_at, Nat.reduceEqDiff, if_true, if_false, e0_2, e0_6, e0_14, e0_15, e0_16, encPV] <;> rfl) (fun c17 => ?_) (fun c17 => ?_)
   ·skip
    have hi : i < (namesR s).length := by have := of_decide_eq_true c17; omega
    obtain ⟨n, hx⟩ : ∃ n, (namesR s)[i]? = some n := ⟨_, List.getElem?_eq_getElem hi⟩
    have hget : (pstrs (namesR s))[i]? = some [pstr n] := by simp only [List.getElem?_map, hx, Option.map_some]
    have hnn := name_len (List.mem_of_getElem? hx)
    have hes : (encsL x s)[i]? = some (encName x n) := by simp only [List.getElem?_map, hx, Option.map_some]
    refine pwp_skip ?_
    try simp only [thenK, scopeK]
    refine hN15 _ ?_
    clear hN15 N15
    refine pwp_then fun N16 hN16 => ?_
    refine pwp_block ?_
    refine pwp_then fun N17 hN17 => ?_
    refine pwp_reg fun R18 hR18 => ?_
    refine pops_to rfl fun M hM => ?_
    simp only [pop, St.eval, constSlot, upd_at, Nat.reduceEqDiff, if_true, if_false, popIndexAddr, Tryd.underlying49, sz9, eq_self, true_and, and_true, str_list, str_size, str_app, str_cut, str_get, e0_2, e0_6, e0_14, e0_15, e0_16, encPV, hget, Int.toNat_natCast]
    refine ⟨Int.natCast_nonneg _, hM _ _ ?_⟩
    clear hM M
    refine pops_to rfl fun M hM => ?_
    simp only [pop, St.eval, constSlot, upd_at, Nat.reduceEqDiff, if_true, if_false, popLoad, loadK, isAggD, List.drop_zero, List.getElem?_toArray, List.getElem?_cons_zero, List.getElem?_cons_succ, Bool.false_eq_true, Tryd.underlying9, sz9, eq_self, true_and, and_true, e0_2, e0_6, e0_14, e0_15, e0_16, encPV, hget, Int.toNat_natCast]
    refine hM _ _ ?_
    clear hM M
    refine pops_mv (.inr rfl) rfl (by simp only [St.eval, upd_at, Nat.reduceEqDiff, if_true, if_false, e0_2, e0_6, e0_14, e0_15, e0_16, encPV, hget, Int.toNat_natCast] <;> rfl) ?_
    refine pops_done (hR18 _ ?_)
    clear hR18 R18
    try simp only [thenK, scopeK]
    refine hN17 _ ?_
    clear hN17 N17
    refine pwp_then fun N19 hN19 => ?_
    refine pwp_reg fun R20 hR20 => ?_
    refine pops_mv (.inl rfl) rfl (by simp only [St.eval, upd_at, Nat.reduceEqDiff, if_true, if_false, e0_2, e0_6, e0_14, e0_15, e0_16, encPV, hget, Int.toNat_natCast] <;> rfl) ?_
    refine pops_to rfl fun M hM => ?_
    simp only [pop, St.eval, constSlot, upd_at, Nat.reduceEqDiff, if_true, if_false, List.length_cons, List.length_nil, Nat.zero_add, Nat.reduceAdd, Nat.reduceLeDiff, List.take_zero, List.take_succ_cons, List.take_nil, List.drop_succ_cons, List.drop_zero, List.drop_nil, List.nil_append, List.cons_append, List.append_nil, and_self, List.getElem?_cons_zero, List.getElem?_cons_succ, List.set_cons_zero, List.set_cons_succ, Option.some.injEq, popLoad, loadK, isAggD, List.drop_zero, List.getElem?_toArray, List.getElem?_cons_zero, List.getElem?_cons_succ, Bool.false_eq_true, Tryd.underlying64, sz64, eq_self, true_and, and_true, e0_2, e0_6, e0_14, e0_15, e0_16, encPV, hget, Int.toNat_natCast]
    refine hM _ _ ?_
    clear hM M
    refine pops_mv (.inl rfl) rfl (by simp only [St.eval, upd_at, Nat.reduceEqDiff, if_true, if_false, e0_2, e0_6, e0_14, e0_15, e0_16, encPV, hget, Int.toNat_natCast] <;> rfl) ?_
    refine pops_to rfl fun M hM => ?_
    simp only [pop, St.eval, constSlot, upd_at, Nat.reduceEqDiff, if_true, if_false, popCall, List.toList_toArray, List.map_cons, List.map_nil, svs, List.mapM_cons, List.mapM_nil, Option.bind_eq_bind, Option.bind_some, Option.pure_def, List.append_nil, List.cons_append, List.nil_append, str_size, e0_2, e0_6, e0_14, e0_15, e0_16, encPV, hget, Int.toNat_natCast]
    refine PFun.use (encodedRef_fun W0 x n (by omega) hnl) fun h3 s3 => hM _ _ ?_
    replace s3 := Same.trans (Same.refl _) s3
    clear hM M
    refine pops_to rfl fun M hM => ?_
    simp only [pop, St.eval, constSlot, upd_at, Nat.reduceEqDiff, if_true, if_false, popBuildSlice, slotCells, List.toList_toArray, List.map_cons, List.map_nil, List.mapM_cons, List.mapM_nil, Option.bind_eq_bind, Option.bind_some, Option.pure_def, Tryd.underlying49, sz9, ze9, by9, eq_self, true_and, and_true, str_list, str_size, str_app, str_cut, str_get, e0_2, e0_6, e0_14, e0_15, e0_16, encPV, hget, Int.toNat_natCast]
    refine ⟨by decide, by decide, rfl, rfl, by simp, by decide, rfl, hM _ _ ?_⟩
    clear hM M
    refine pops_to rfl fun M hM => ?_
    simp only [pop, St.eval, constSlot, upd_at, Nat.reduceEqDiff, if_true, if_false, popCall, List.toList_toArray, List.map_cons, List.map_nil, popBuiltin, eq_self, true_and, and_true, str_list, str_size, str_app, str_cut, str_get, e0_2, e0_6, e0_14, e0_15, e0_16, encPV, hget, Int.toNat_natCast]
    refine row_app (ys := pstrs [encName x n]) hb Tryd.underlying49 sz9 by9 ze9 rfl Nat.one_pos (ho.same s3) (hk0.trans (Same.keeps s3)) rfl (.inr rfl) ⟨by simp; omega, by simp; omega⟩ fun sl2 hp2 ho2 hk2 => hM _ _ ?_
    have etk : pstrs ((encsL x s).take i) ++ pstrs [encName x n] = pstrs ((encsL x s).take (i + 1)) := by rw [List.take_add_one, hes, Option.toList_some]; simp only [pstrs, List.map_append]
    rw [etk] at ho2
    clear hM M
    refine pops_mv (.inr rfl) rfl (by simp only [St.eval, upd_at, Nat.reduceEqDiff, if_true, if_false, e0_2, e0_6, e0_14, e0_15, e0_16, encPV, hget, Int.toNat_natCast] <;> rfl) ?_
    refine pops_done (hR20 _ ?_)
    clear hR20 R20
    try simp only [thenK, scopeK]
    refine hN19 _ ?_
    clear hN19 N19
    refine pwp_then fun N21 hN21 => ?_
    have hlf : (pstrs ((encsL x s).take (i + 1))).length = i + 1 := by rw [List.length_map, List.length_take, List.length_map]; omega
    have hwi : IntKind.i64.wrap (((i + 1 : Nat) : Int) - 1) = (i : Int) := by rw [wrap_i64 (by omega) (by omega)]; omega
    obtain ⟨id2, ver2, es2, hsl2, hl2, hbk2, htk2, hgt2⟩ := ho2.open (by rw [hlf]; omega)
    have hg2 : es2[i]? = some [pstr (encName x n)] := by rw [hgt2 i (by rw [hlf]; omega), ← etk, List.getElem?_append_right (by rw [List.length_map, List.length_take, List.length_map]; omega)]; simp only [List.length_map, List.length_take]; rw [show i - min i (namesR s).length = 0 by omega]; rfl
    refine pwp_dreg 10 mixed (by decide +kernel) fun R22 hR22 => ?_
    simp only [List.take_succ_cons, List.take_zero, List.drop_succ_cons, List.drop_zero]
    apply lex_to
    · rfl
    ·intro h' s' M hM
     simp only [pop, St.eval, constSlot, upd_at, Nat.reduceEqDiff, if_true, if_false, eq_self, true_and, and_true, str_list, str_size, str_app, str_cut, str_get, e0_2, e0_6, e0_14, e0_15, e0_16, encPV, hget, Int.toNat_natCast, hsl2, s'.1]
     exact hM _ (.refl _)
    apply lex_to
    · rfl
    ·intro h' s' M hM
     simp only [pop, St.eval, constSlot, upd_at, Nat.reduceEqDiff, if_true, if_false, eq_self, true_and, and_true, str_list, str_size, str_app, str_cut, str_get, e0_2, e0_6, e0_14, e0_15, e0_16, encPV, hget, Int.toNat_natCast, hsl2, s'.1]
     exact hM _ (.refl _)
    apply lex_to
    · rfl
    ·intro h' s' M hM
     simp only [pop, St.eval, constSlot, upd_at, Nat.reduceEqDiff, if_true, if_false, popCall, List.toList_toArray, List.map_cons, List.map_nil, popBuiltin, popLen, lenOfSlot, List.length_map, Tryd.underlying49, eq_self, true_and, and_true, str_list, str_size, str_app, str_cut, str_get, e0_2, e0_6, e0_14, e0_15, e0_16, encPV, hget, Int.toNat_natCast, hsl2, hlf, s'.1]
     exact hM _ (.refl _)
    apply lex_to
    · rfl
    ·intro h' s' M hM
     simp only [pop, St.eval, constSlot, upd_at, Nat.reduceEqDiff, if_true, if_false, popBin, binK, intK, strK, eqK, eq_self, true_and, and_true, e0_2, e0_6, e0_14, e0_15, e0_16, encPV, hget, Int.toNat_natCast, hsl2, hwi, s'.1]
     exact hM _ (.refl _)
    apply lex_to
    · rfl
    ·intro h' s' M hM
     simp only [pop, St.eval, constSlot, upd_at, Nat.reduceEqDiff, if_true, if_false, popIndexAddr, Tryd.underlying49, sz9, eq_self, true_and, and_true, str_list, str_size, str_app, str_cut, str_get, e0_2, e0_6, e0_14, e0_15, e0_16, encPV, hget, Int.toNat_natCast, hsl2, hbk2, hlf, Int.toNat_natCast, Nat.zero_add, s'.1]
     refine ⟨Int.natCast_nonneg _, by omega, ?_⟩
     exact hM _ (.refl _)
    apply lex_to
    · rfl
    ·intro h' s' M hM
     simp only [pop, St.eval, constSlot, upd_at, Nat.reduceEqDiff, if_true, if_false, popLoad, loadK, isAggD, List.drop_zero, List.getElem?_toArray, List.getElem?_cons_zero, List.getElem?_cons_succ, Bool.false_eq_true, Tryd.underlying9, sz9, eq_self, true_and, and_true, e0_2, e0_6, e0_14, e0_15, e0_16, encPV, hget, Int.toNat_natCast, hsl2, hbk2, hg2, s'.1]
     exact hM _ (.refl _)
    apply lex_to
    · rfl
    ·intro h' s' M hM
     simp only [pop, St.eval, constSlot, upd_at, Nat.reduceEqDiff, if_true, if_false, popCall, List.toList_toArray, List.map_cons, List.map_nil, popBuiltin, popLen, lenOfSlot, List.length_map, Tryd.underlying9, eq_self, true_and, and_true, str_list, str_size, str_app, str_cut, str_get, e0_2, e0_6, e0_14, e0_15, e0_16, encPV, hget, Int.toNat_natCast, hsl2, s'.1]
     exact hM _ (.refl _)
    apply lex_to
    · rfl
    ·intro h' s' M hM
     simp only [pop, St.eval, constSlot, upd_at, Nat.reduceEqDiff, if_true, if_false, popFieldAddr, fieldOf, List.drop_succ_cons, List.drop_zero, List.getElem?_toArray, List.getElem?_cons_zero, List.getElem?_cons_succ, Tryd.underlying64, sz3, e0_2, e0_6, e0_14, e0_15, e0_16, encPV, hget, Int.toNat_natCast, hsl2, s'.1]
     exact ⟨⟨_, rfl⟩, hM _ (.refl _)⟩
    apply lex_to
    · rfl
    ·intro h' s' M hM
     simp only [pop, St.eval, constSlot, upd_at, Nat.reduceEqDiff, if_true, if_false, popLoad, loadK, isAggD, List.drop_zero, List.getElem?_toArray, List.getElem?_cons_zero, List.getElem?_cons_succ, Bool.false_eq_true, Tryd.underlying3, sz3, eq_self, true_and, and_true, e0_2, e0_6, e0_14, e0_15, e0_16, encPV, hget, Int.toNat_natCast, hsl2, s'.1]
     exact hM _ (.refl _)
    apply lex_to
    · rfl
    ·intro h' s' M hM
     simp only [pop, St.eval, constSlot, upd_at, Nat.reduceEqDiff, if_true, if_false, popBin, binK, intK, strK, eqK, eq_self, true_and, and_true, e0_2, e0_6, e0_14, e0_15, e0_16, encPV, hget, Int.toNat_natCast, hsl2, s'.1]
     exact hM _ (.refl _)
    refine lex_done fun hq sq => ?_
    skip
    refine pops_done (hR22 _ ?_)
    clear hR22 R22
    try simp only [thenK, scopeK]
    refine hN21 _ ?_
    clear hN21 N21
    refine pwp_cond (by simp only [St.eval, upd_at, Nat.reduceEqDiff, if_true, if_false, e0_2, e0_6, e0_14, e0_15, e0_16, encPV, hget, Int.toNat_natCast, hsl2] <;> rfl) (fun c35 => ?_) (fun c35 => ?_)
    ·skip
     have he := encPath_1 hx (of_decide_eq_true c35)
     refine pwp_then fun N23 hN23 => ?_
     refine pwp_reg fun R24 hR24 => ?_
     refine pops_mv (.inr rfl) rfl (by simp only [St.eval, constSlot] <;> rfl) ?_
     refine pops_mv (.inr rfl) rfl (by simp only [St.eval, constSlot] <;> rfl) ?_
     refine pops_done (hR24 _ ?_)
     clear hR24 R24
     try simp only [thenK, scopeK]
     refine hN23 _ ?_
     clear hN23 N23
     refine pwp_ret ?_
     simp only [thenK, blockK, scopeK, bodyK]
     clear hN16 N16 hN10 N10
     exact ⟨_, rfl, by rw [hpe, he]; exact endKeeps2 (hk2.trans (Same.keeps sq)) rfl⟩
    ·skip
     have hle := of_decide_eq_false c35
     refine pwp_skip ?_
     try simp only [blockK, thenK, scopeK]
     try simp only [thenK, scopeK]
     refine hN16 _ ?_
     clear hN16 N16
     refine pwp_reg fun R25 hR25 => ?_
     refine pops_to rfl fun M hM => ?_
     simp only [pop, St.eval, constSlot, upd_at, Nat.reduceEqDiff, if_true, if_false, popBin, binK, intK, strK, eqK, eq_self, true_and, and_true, e0_2, e0_6, e0_14, e0_15, e0_16, encPV, hget, Int.toNat_natCast, hsl2]
     refine hM _ _ ?_
     clear hM M
     refine pops_mv (.inl rfl) rfl (by simp only [St.eval, upd_at, Nat.reduceEqDiff, if_true, if_false, e0_2, e0_6, e0_14, e0_15, e0_16, encPV, hget, Int.toNat_natCast, hsl2] <;> rfl) ?_
     refine pops_done (hR25 _ ?_)
     clear hR25 R25
     try simp only [thenK, scopeK]
     exact ⟨_, by omega, _, .refl _ _, i + 1, sl2, rfl, by omega, by rw [List.take_add_one, hx]; simp only [Option.toList_some, List.mem_append, List.mem_singleton]; rintro y (hy | rfl); exact hx0_1 y hy; omega, ⟨hk2.trans (Same.keeps sq), ho2.same sq⟩, by simp only [upd_at, Nat.reduceEqDiff, if_true, if_false, e0_2, e0_6, e0_14, e0_15, e0_16, encPV, hget, Int.toNat_natCast, hsl2], by simp only [upd_at, Nat.reduceEqDiff, if_true, if_false, e0_2, e0_6, e0_14, e0_15, e0_16, encPV, hget, Int.toNat_natCast, hsl2], by simp only [upd_at, Nat.reduceEqDiff, if_true, if_false, e0_2, e0_6, e0_14, e0_15, e0_16, encPV, hget, Int.toNat_natCast, hsl2], by simp only [upd_at, Nat.reduceEqDiff, if_true, if_false, e0_2, e0_6, e0_14, e0_15, e0_16, encPV, hget, Int.toNat_natCast, hsl2], by simp only [upd_at, Nat.reduceEqDiff, if_true, if_false, e0_16]; rw [wrap_succ (by omega)]⟩
   ·skip
    have hi := of_decide_eq_false c17
    have hany := encPath_any hi hx0_1
    refine pwp_exit ?_
    try simp only [thenK, blockK, scopeK, if_true, Nat.reduceEqDiff, if_false]
    clear hN15 N15
    try simp only [blockK, scopeK, if_true, Nat.reduceEqDiff, if_false, thenK]
    try simp only [thenK, scopeK]
    refine hN10 _ ?_
    clear hN10 N10
    refine pwp_then fun N26 hN26 => ?_
    rw [List.take_of_length_le (by rw [List.length_map]; omega)] at ho
    refine pwp_freezeRow 6 (by simp only [upd_at, Nat.reduceEqDiff, if_true, if_false, e0_6]) ho hb hk0 fun hp9 hk9 => ?_
    refine pwp_reg fun R27 hR27 => ?_
    refine pops_mv (.inl rfl) rfl (by simp only [St.eval, upd_at, Nat.reduceEqDiff, if_true, if_false, e0_2, e0_6, e0_14, e0_15, e0_16, encPV] <;> rfl) ?_
    refine pops_to rfl fun M hM => ?_
    simp only [pop, St.eval, constSlot, upd_at, Nat.reduceEqDiff, if_true, if_false, popCall, List.toList_toArray, List.map_cons, List.map_nil, svs, List.mapM_cons, List.mapM_nil, Option.bind_eq_bind, Option.bind_some, Option.pure_def, List.append_nil, List.cons_append, List.nil_append, str_size, e0_2, e0_6, e0_14, e0_15, e0_16, encPV]
    refine PFun.use (join_fun W0 false (encsL x s) (by rw [List.length_map]; omega) (encs_join (by omega))) fun h4 s4 => hM _ _ ?_
    replace s4 := Same.trans (Same.refl _) s4
    clear hM M
    refine pops_mv (.inr rfl) rfl (by simp only [St.eval, upd_at, Nat.reduceEqDiff, if_true, if_false, e0_2, e0_6, e0_14, e0_15, e0_16, encPV] <;> rfl) ?_
    refine pops_done (hR27 _ ?_)
    clear hR27 R27
    try simp only [thenK, scopeK]
    refine hN26 _ ?_
    clear hN26 N26
    refine pwp_then fun N28 hN28 => ?_
    refine pwp_then fun N29 hN29 => ?_
    refine pwp_reg fun R30 hR30 => ?_
    refine pops_mv (.inl rfl) rfl (by simp only [St.eval, upd_at, Nat.reduceEqDiff, if_true, if_false, e0_2, e0_6, e0_14, e0_15, e0_16, encPV] <;> rfl) ?_
    refine pops_to rfl fun M hM => ?_
    simp only [pop, St.eval, constSlot, upd_at, Nat.reduceEqDiff, if_true, if_false, popCall, List.toList_toArray, List.map_cons, List.map_nil, popBuiltin, popLen, lenOfSlot, List.length_map, Tryd.underlying9, eq_self, true_and, and_true, str_list, str_size, str_app, str_cut, str_get, e0_2, e0_6, e0_14, e0_15, e0_16, encPV]
    refine hM _ _ ?_
    clear hM M
    refine pops_to rfl fun M hM => ?_
    simp only [pop, St.eval, constSlot, upd_at, Nat.reduceEqDiff, if_true, if_false, popBin, binK, intK, strK, eqK, eq_self, true_and, and_true, e0_2, e0_6, e0_14, e0_15, e0_16, encPV]
    refine hM _ _ ?_
    clear hM M
    refine pops_done (hR30 _ ?_)
    clear hR30 R30
    try simp only [thenK, scopeK]
    refine hN29 _ ?_
    clear hN29 N29
    refine pwp_cond (by simp only [St.eval, upd_at, Nat.reduceEqDiff, if_true, if_false, e0_2, e0_6, e0_14, e0_15, e0_16, encPV] <;> rfl) (fun c41 => ?_) (fun c41 => ?_)
    ·skip
     have he := encPath_2 hany (by have := of_decide_eq_true c41; omega)
     refine pwp_then fun N31 hN31 => ?_
     refine pwp_reg fun R32 hR32 => ?_
     refine pops_mv (.inr rfl) rfl (by simp only [St.eval, constSlot] <;> rfl) ?_
     refine pops_mv (.inr rfl) rfl (by simp only [St.eval, constSlot] <;> rfl) ?_
     refine pops_done (hR32 _ ?_)
     clear hR32 R32
     try simp only [thenK, scopeK]
     refine hN31 _ ?_
     clear hN31 N31
     refine pwp_ret ?_
     simp only [thenK, blockK, scopeK, bodyK]
     clear hN28 N28
     exact ⟨_, rfl, by rw [hpe, he]; exact endKeeps2 (hk9.trans (Same.keeps s4)) rfl⟩
    ·skip
     have he := encPath_3 hany (by have := of_decide_eq_false c41; omega)
     refine pwp_skip ?_
     try simp only [thenK, scopeK]
     refine hN28 _ ?_
     clear hN28 N28
     refine pwp_then fun N33 hN33 => ?_
     refine pwp_reg fun R34 hR34 => ?_
     refine pops_mv (.inl rfl) rfl (by simp only [St.eval, upd_at, Nat.reduceEqDiff, if_true, if_false, e0_2, e0_6, e0_14, e0_15, e0_16, encPV] <;> rfl) ?_
     refine pops_mv (.inr rfl) rfl (by simp only [St.eval, upd_at, Nat.reduceEqDiff, if_true, if_false, e0_2, e0_6, e0_14, e0_15, e0_16, encPV] <;> rfl) ?_
     refine pops_mv (.inr rfl) rfl (by simp only [St.eval, constSlot] <;> rfl) ?_
     refine pops_done (hR34 _ ?_)
     clear hR34 R34
     try simp only [thenK, scopeK]
     refine hN33 _ ?_
     clear hN33 N33
     refine pwp_ret ?_
     simp only [thenK, blockK, scopeK, bodyK]
     exact ⟨_, rfl, by rw [hpe, he]; exact endKeeps2 (hk9.trans (Same.keeps s4)) rfl⟩
end Go.Pw
