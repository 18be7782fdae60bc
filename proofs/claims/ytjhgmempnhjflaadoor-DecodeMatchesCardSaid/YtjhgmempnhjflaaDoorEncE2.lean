import Derived.Test.YtjhgmempnhjflaaDoorEncE
import Derived.Test.YtjhgmempnhjflaaDoorEncD2
namespace Go.Pw
open Go Go.RowKit Go.Proofs
set_option maxRecDepth 100000
set_option linter.unusedSimpArgs false
set_option linter.unusedVariables false
theorem nm48 : (Tryd.f48.name == "runtime.NumGoroutine") = false := by kernel_rfl
set_option maxHeartbeats 2000000 in
theorem decodeRef_fun (W0 : World) (hm : HasMax W0) (x : Enc) (s : List UInt8) (hnl : x.names.length ≤ 9223372036854775807) (hmax : x.maxName ≤ 255) :
  PFun Tryd.prog W0 48 [.agg (encPV x), .one (pstr s)] (.tup [.one (pstr (decR x s).1), .one (pint (decR x s).2)]) := by
 intro h
 refine pcalls2 (n := 108) Tryd.func48 rfl nm48 rfl fun hb => ?_
 refine pwp_then fun N1 hN1 => ?_
 refine pwp_reg fun R2 hR2 => ?_
 refine pops_to rfl fun M hM => ?_
 simp only [pop, St.eval, constSlot, upd_at, Nat.reduceEqDiff, if_true, if_false, popBox, popBoxRo, slotCells, encPV]
 refine .inr ⟨Nat.succ_pos _, hM _ _ ?_⟩
 clear hM M
 refine pops_mv (.inr rfl) rfl (by simp only [St.eval, constSlot] <;> rfl) ?_
 refine pops_mv (.inr rfl) rfl (by simp only [St.eval, constSlot] <;> rfl) ?_
 refine pops_done (hR2 _ ?_)
 clear hR2 R2
 try simp only [thenK, scopeK]
 refine hN1 _ ?_
 clear hN1 N1
 refine pwp_then fun N3 hN3 => ?_
 refine pwp_then fun N4 hN4 => ?_
 refine pwp_reg fun R5 hR5 => ?_
 refine pops_mv (.inl rfl) rfl (by simp only [St.eval, upd_at, Nat.reduceEqDiff, if_true, if_false, encPV] <;> rfl) ?_
 refine pops_to rfl fun M hM => ?_
 simp only [pop, St.eval, constSlot, upd_at, Nat.reduceEqDiff, if_true, if_false, popCall, List.toList_toArray, List.map_cons, List.map_nil, svs, List.mapM_cons, List.mapM_nil, Option.bind_eq_bind, Option.bind_some, Option.pure_def, List.append_nil, List.cons_append, List.nil_append, str_size, encPV]
 refine PFun.use (isPath_fun W0 hm s) fun h1 s1 => hM _ _ ?_
 replace s1 := Same.trans (Same.refl _) s1
 clear hM M
 refine pops_to rfl fun M hM => ?_
 simp only [pop, St.eval, constSlot, upd_at, Nat.reduceEqDiff, if_true, if_false, unK, encPV]
 refine hM _ _ ?_
 clear hM M
 refine pops_done (hR5 _ ?_)
 clear hR5 R5
 try simp only [thenK, scopeK]
 refine hN4 _ ?_
 clear hN4 N4
 refine pwp_cond (by simp only [St.eval, upd_at, Nat.reduceEqDiff, if_true, if_false, encPV] <;> rfl) (fun c15 => ?_) (fun c15 => ?_)
 ·skip
  have hp : isPathB s = false := by simpa using c15
  have hdn : decR x s = ([], 1) := by rw [decR, hp]; rfl
  refine pwp_then fun N6 hN6 => ?_
  refine pwp_reg fun R7 hR7 => ?_
  refine pops_mv (.inr rfl) rfl (by simp only [St.eval, constSlot] <;> rfl) ?_
  refine pops_mv (.inr rfl) rfl (by simp only [St.eval, constSlot] <;> rfl) ?_
  refine pops_done (hR7 _ ?_)
  clear hR7 R7
  try simp only [thenK, scopeK]
  refine hN6 _ ?_
  clear hN6 N6
  refine pwp_ret ?_
  simp only [thenK, blockK, scopeK, bodyK]
  clear hN3 N3
  exact ⟨_, rfl, by rw [hdn]; exact endKeeps2 (Same.keeps s1) rfl⟩
 ·skip
  have hp : isPathB s = true := by simpa using c15
  have hs := isPathB_len hp
  refine pwp_skip ?_
  try simp only [thenK, scopeK]
  refine hN3 _ ?_
  clear hN3 N3
  refine pwp_then fun N8 hN8 => ?_
  refine pwp_reg fun R9 hR9 => ?_
  refine pops_mv (.inr rfl) rfl (by simp only [St.eval, constSlot] <;> rfl) ?_
  refine pops_done (hR9 _ ?_)
  clear hR9 R9
  try simp only [thenK, scopeK]
  refine hN8 _ ?_
  clear hN8 N8
  refine pwp_then fun N10 hN10 => ?_
  refine pwp_then fun N11 hN11 => ?_
  refine pwp_reg fun R12 hR12 => ?_
  refine pops_mv (.inr rfl) rfl (by simp only [St.eval, constSlot] <;> rfl) ?_
  refine pops_done (hR12 _ ?_)
  clear hR12 R12
  try simp only [thenK, scopeK]
  refine hN11 _ ?_
  clear hN11 N11
  refine pwp_block ?_
  refine pwp_loop (fun k σ => ∃ (i : Nat), ∃ (sl : Slot), ∃ (out : List UInt8), (k = s.length - i) ∧ (i ≤ s.length) ∧ (DecI x.kase s out i) ∧ (out.length ≤ i) ∧ (Keeps h σ.hp ∧ RowIs 5 1 h σ.hp sl (out.map byteCell)) ∧ (σ.env 2 = .sv (.one (.rop (encPV x)))) ∧ (σ.env 1 = .sv (.one (pstr s))) ∧ (σ.env 6 = sl) ∧ (σ.env 7 = .sv (.one (pint (i : Nat))))) _ ⟨_, .refl _ _, 0, (.sv (.one (.val (.slice none 0 0)))), [], rfl, ?_⟩ ?_
  · exact ⟨Nat.zero_le _, by unfold DecI; simp, by simp, ⟨Same.keeps s1, .nil _ _ _ _⟩, by simp only [upd_at, Nat.reduceEqDiff, if_true, if_false, encPV], by simp only [upd_at, Nat.reduceEqDiff, if_true, if_false, encPV], by simp only [upd_at, Nat.reduceEqDiff, if_true, if_false, encPV], by simp only [upd_at, Nat.reduceEqDiff, if_true, if_false]; rfl⟩
  ·rintro k ⟨e, hp0⟩ ⟨i, sl, out, hk0, hx0_0, hx0_1, hx0_2, sl0, e0_2, e0_1, e0_6, e0_7⟩
   simp only at sl0 e0_2 e0_1 e0_6 e0_7
   obtain ⟨hk0, ho⟩ := sl0
   refine pwp_hpok fun hok0 => ?_
   simp only at hok0
   refine pwp_then fun N13 hN13 => ?_
   refine pwp_then fun N14 hN14 => ?_
   refine pwp_reg fun R15 hR15 => ?_
   refine pops_mv (.inl rfl) rfl (by simp only [St.eval, upd_at, Nat.reduceEqDiff, if_true, if_false, e0_2, e0_1, e0_6, e0_7, encPV] <;> rfl) ?_
   refine pops_mv (.inl rfl) rfl (by simp only [St.eval, upd_at, Nat.reduceEqDiff, if_true, if_false, e0_2, e0_1, e0_6, e0_7, encPV] <;> rfl) ?_
   refine pops_to rfl fun M hM => ?_
   simp only [pop, St.eval, constSlot, upd_at, Nat.reduceEqDiff, if_true, if_false, popCall, List.toList_toArray, List.map_cons, List.map_nil, popBuiltin, popLen, lenOfSlot, List.length_map, Tryd.underlying9, eq_self, true_and, and_true, str_list, str_size, str_app, str_cut, str_get, e0_2, e0_1, e0_6, e0_7, encPV]
   refine hM _ _ ?_
   clear hM M
   refine pops_to rfl fun M hM => ?_
   simp only [pop, St.eval, constSlot, upd_at, Nat.reduceEqDiff, if_true, if_false, popBin, binK, intK, strK, eqK, eq_self, true_and, and_true, e0_2, e0_1, e0_6, e0_7, encPV]
   refine hM _ _ ?_
   clear hM M
   refine pops_done (hR15 _ ?_)
   clear hR15 R15
   try simp only [thenK, scopeK]
   refine hN14 _ ?_
   clear hN14 N14
   refine pwp_cond (by simp only [St.eval, upd_at, Nat.reduceEqDiff, if_true, if_false, e0_2, e0_1, e0_6, e0_7, encPV] <;> rfl) (fun c19 => ?_) (fun c19 => ?_)
   ·skip
    have hi : i < s.length := by have := of_decide_eq_true c19; omega
    obtain ⟨c, hx⟩ : ∃ c, s[i]? = some c := ⟨_, List.getElem?_eq_getElem hi⟩
    have hw1 := wrap_succ (i := i) (by omega)
    have hw2 : IntKind.i64.wrap ((i : Int) + 2) = ((i + 2 : Nat) : Int) := by rw [wrap_i64 (by omega) (by omega)]; omega
    have hw3 := wrap_succ (i := i + 2) (by omega)
    have hw4 := wrap_succ (i := i + 1) (by omega)
    refine pwp_skip ?_
    try simp only [thenK, scopeK]
    refine hN13 _ ?_
    clear hN13 N13
    refine pwp_then fun N16 hN16 => ?_
    refine pwp_block ?_
    refine pwp_then fun N17 hN17 => ?_
    refine pwp_reg fun R18 hR18 => ?_
    refine pops_mv (.inl rfl) rfl (by simp only [St.eval, upd_at, Nat.reduceEqDiff, if_true, if_false, e0_2, e0_1, e0_6, e0_7, encPV] <;> rfl) ?_
    refine pops_mv (.inl rfl) rfl (by simp only [St.eval, upd_at, Nat.reduceEqDiff, if_true, if_false, e0_2, e0_1, e0_6, e0_7, encPV] <;> rfl) ?_
    refine pops_to rfl fun M hM => ?_
    simp only [pop, St.eval, constSlot, upd_at, Nat.reduceEqDiff, if_true, if_false, popIndex, partK, Tryd.underlying9, eq_self, true_and, and_true, str_list, str_size, str_app, str_cut, str_get, e0_2, e0_1, e0_6, e0_7, encPV, hx, Int.toNat_natCast]
    refine ⟨Int.natCast_nonneg _, hM _ _ ?_⟩
    clear hM M
    refine pops_mv (.inr rfl) rfl (by simp only [St.eval, upd_at, Nat.reduceEqDiff, if_true, if_false, e0_2, e0_1, e0_6, e0_7, encPV] <;> rfl) ?_
    refine pops_done (hR18 _ ?_)
    clear hR18 R18
    try simp only [thenK, scopeK]
    refine hN17 _ ?_
    clear hN17 N17
    refine pwp_block ?_
    refine pwp_then fun N19 hN19 => ?_
    refine pwp_reg fun R20 hR20 => ?_
    refine pops_mv (.inl rfl) rfl (by simp only [St.eval, upd_at, Nat.reduceEqDiff, if_true, if_false, e0_2, e0_1, e0_6, e0_7, encPV] <;> rfl) ?_
    refine pops_to rfl fun M hM => ?_
    simp only [pop, St.eval, constSlot, upd_at, Nat.reduceEqDiff, if_true, if_false, popBin, binK, intK, strK, eqK, Tryd.underlying5, isPtr, eq_self, true_and, and_true, e0_2, e0_1, e0_6, e0_7, encPV]
    refine hM _ _ ?_
    clear hM M
    refine pops_mv (.inr rfl) rfl (by simp only [St.eval, upd_at, Nat.reduceEqDiff, if_true, if_false, e0_2, e0_1, e0_6, e0_7, encPV] <;> rfl) ?_
    refine pops_done (hR20 _ ?_)
    clear hR20 R20
    try simp only [thenK, scopeK]
    refine hN19 _ ?_
    clear hN19 N19
    refine pwp_cond (by simp only [St.eval, upd_at, Nat.reduceEqDiff, if_true, if_false, e0_2, e0_1, e0_6, e0_7, encPV] <;> rfl) (fun c29 => ?_) (fun c29 => ?_)
    ·skip
     rw [u8_37] at c29
     have hc37 : c = 37 := by simpa using c29
     refine pwp_then fun N21 hN21 => ?_
     refine pwp_then fun N22 hN22 => ?_
     refine pwp_reg fun R23 hR23 => ?_
     refine pops_mv (.inl rfl) rfl (by simp only [St.eval, upd_at, Nat.reduceEqDiff, if_true, if_false, e0_2, e0_1, e0_6, e0_7, encPV] <;> rfl) ?_
     refine pops_to rfl fun M hM => ?_
     simp only [pop, St.eval, constSlot, upd_at, Nat.reduceEqDiff, if_true, if_false, popBin, binK, intK, strK, eqK, eq_self, true_and, and_true, e0_2, e0_1, e0_6, e0_7, encPV, hw2]
     refine hM _ _ ?_
     clear hM M
     refine pops_mv (.inl rfl) rfl (by simp only [St.eval, upd_at, Nat.reduceEqDiff, if_true, if_false, e0_2, e0_1, e0_6, e0_7, encPV] <;> rfl) ?_
     refine pops_to rfl fun M hM => ?_
     simp only [pop, St.eval, constSlot, upd_at, Nat.reduceEqDiff, if_true, if_false, popCall, List.toList_toArray, List.map_cons, List.map_nil, popBuiltin, popLen, lenOfSlot, List.length_map, Tryd.underlying9, eq_self, true_and, and_true, str_list, str_size, str_app, str_cut, str_get, e0_2, e0_1, e0_6, e0_7, encPV]
     refine hM _ _ ?_
     clear hM M
     refine pops_to rfl fun M hM => ?_
     simp only [pop, St.eval, constSlot, upd_at, Nat.reduceEqDiff, if_true, if_false, popBin, binK, intK, strK, eqK, eq_self, true_and, and_true, e0_2, e0_1, e0_6, e0_7, encPV]
     refine hM _ _ ?_
     clear hM M
     refine pops_done (hR23 _ ?_)
     clear hR23 R23
     try simp only [thenK, scopeK]
     refine hN22 _ ?_
     clear hN22 N22
     refine pwp_cond (by simp only [St.eval, upd_at, Nat.reduceEqDiff, if_true, if_false, e0_2, e0_1, e0_6, e0_7, encPV] <;> rfl) (fun c36 => ?_) (fun c36 => ?_)
     ·skip
      have hlen2 : s.length ≤ i + 2 := by have := of_decide_eq_true c36; omega
      have hd0 := dec_hshort hx hc37 hlen2 hx0_1
      have hdn : decR x s = ([], 6) := by rw [decR_ref hmax, decRef, if_pos hp, hd0]
      refine pwp_then fun N24 hN24 => ?_
      refine pwp_reg fun R25 hR25 => ?_
      refine pops_mv (.inr rfl) rfl (by simp only [St.eval, constSlot] <;> rfl) ?_
      refine pops_mv (.inr rfl) rfl (by simp only [St.eval, constSlot] <;> rfl) ?_
      refine pops_done (hR25 _ ?_)
      clear hR25 R25
      try simp only [thenK, scopeK]
      refine hN24 _ ?_
      clear hN24 N24
      refine pwp_ret ?_
      simp only [thenK, blockK, scopeK, bodyK]
      clear hN21 N21 hN16 N16 hN10 N10
      exact ⟨_, rfl, by rw [hdn]; exact endKeeps2 (hk0.trans (Same.keeps (Same.refl _))) rfl⟩
     ·skip
      have hlen2 : i + 2 < s.length := by have := of_decide_eq_false c36; omega
      obtain ⟨d, hd⟩ : ∃ d, s[i + 1]? = some d := ⟨_, List.getElem?_eq_getElem (by omega)⟩
      obtain ⟨e2, he2⟩ : ∃ d, s[i + 2]? = some d := ⟨_, List.getElem?_eq_getElem (by omega)⟩
      refine pwp_skip ?_
      try simp only [thenK, scopeK]
      refine hN21 _ ?_
      clear hN21 N21
      refine pwp_then fun N26 hN26 => ?_
      refine pwp_dreg 12 mixed (by decide +kernel) fun R27 hR27 => ?_
      simp only [List.take_succ_cons, List.take_zero, List.drop_succ_cons, List.drop_zero]
      apply lex_to
      · rfl
      ·intro h' s' M hM
       simp only [pop, St.eval, constSlot, upd_at, Nat.reduceEqDiff, if_true, if_false, eq_self, true_and, and_true, str_list, str_size, str_app, str_cut, str_get, e0_2, e0_1, e0_6, e0_7, encPV, s'.1]
       exact hM _ (.refl _)
      apply lex_to
      · rfl
      ·intro h' s' M hM
       simp only [pop, St.eval, constSlot, upd_at, Nat.reduceEqDiff, if_true, if_false, eq_self, true_and, and_true, str_list, str_size, str_app, str_cut, str_get, e0_2, e0_1, e0_6, e0_7, encPV, s'.1]
       exact hM _ (.refl _)
      apply lex_to
      · rfl
      ·intro h' s' M hM
       simp only [pop, St.eval, constSlot, upd_at, Nat.reduceEqDiff, if_true, if_false, popBin, binK, intK, strK, eqK, eq_self, true_and, and_true, e0_2, e0_1, e0_6, e0_7, encPV, hw1, s'.1]
       exact hM _ (.refl _)
      apply lex_to
      · rfl
      ·intro h' s' M hM
       simp only [pop, St.eval, constSlot, upd_at, Nat.reduceEqDiff, if_true, if_false, popIndex, partK, Tryd.underlying9, eq_self, true_and, and_true, str_list, str_size, str_app, str_cut, str_get, e0_2, e0_1, e0_6, e0_7, encPV, hd, Int.toNat_natCast, s'.1]
       refine ⟨Int.natCast_nonneg _, ?_⟩
       exact hM _ (.refl _)
      apply lex_to
      · rfl
      ·intro h' s' M hM
       simp only [pop, St.eval, constSlot, upd_at, Nat.reduceEqDiff, if_true, if_false, popCall, List.toList_toArray, List.map_cons, List.map_nil, svs, List.mapM_cons, List.mapM_nil, Option.bind_eq_bind, Option.bind_some, Option.pure_def, List.append_nil, List.cons_append, List.nil_append, str_size, e0_2, e0_1, e0_6, e0_7, encPV, s'.1]
       refine PFun.use (indexByte_fun W0 HEXL d) fun hp s => hM _ s
      apply lex_to
      · rfl
      ·intro h' s' M hM
       simp only [pop, St.eval, constSlot, upd_at, Nat.reduceEqDiff, if_true, if_false, eq_self, true_and, and_true, str_list, str_size, str_app, str_cut, str_get, e0_2, e0_1, e0_6, e0_7, encPV, s'.1]
       exact hM _ (.refl _)
      apply lex_to
      · rfl
      ·intro h' s' M hM
       simp only [pop, St.eval, constSlot, upd_at, Nat.reduceEqDiff, if_true, if_false, eq_self, true_and, and_true, str_list, str_size, str_app, str_cut, str_get, e0_2, e0_1, e0_6, e0_7, encPV, s'.1]
       exact hM _ (.refl _)
      apply lex_to
      · rfl
      ·intro h' s' M hM
       simp only [pop, St.eval, constSlot, upd_at, Nat.reduceEqDiff, if_true, if_false, popBin, binK, intK, strK, eqK, eq_self, true_and, and_true, e0_2, e0_1, e0_6, e0_7, encPV, hw2, s'.1]
       exact hM _ (.refl _)
      apply lex_to
      · rfl
      ·intro h' s' M hM
       simp only [pop, St.eval, constSlot, upd_at, Nat.reduceEqDiff, if_true, if_false, popIndex, partK, Tryd.underlying9, eq_self, true_and, and_true, str_list, str_size, str_app, str_cut, str_get, e0_2, e0_1, e0_6, e0_7, encPV, he2, Int.toNat_natCast, s'.1]
       refine ⟨Int.natCast_nonneg _, ?_⟩
       exact hM _ (.refl _)
      apply lex_to
      · rfl
      ·intro h' s' M hM
       simp only [pop, St.eval, constSlot, upd_at, Nat.reduceEqDiff, if_true, if_false, popCall, List.toList_toArray, List.map_cons, List.map_nil, svs, List.mapM_cons, List.mapM_nil, Option.bind_eq_bind, Option.bind_some, Option.pure_def, List.append_nil, List.cons_append, List.nil_append, str_size, e0_2, e0_1, e0_6, e0_7, encPV, s'.1]
       refine PFun.use (indexByte_fun W0 HEXL e2) fun hp s => hM _ s
      apply lex_to
      · rfl
      ·intro h' s' M hM
       simp only [pop, St.eval, constSlot, upd_at, Nat.reduceEqDiff, if_true, if_false, eq_self, true_and, and_true, str_list, str_size, str_app, str_cut, str_get, e0_2, e0_1, e0_6, e0_7, encPV, s'.1]
       exact hM _ (.refl _)
      apply lex_to
      · rfl
      ·intro h' s' M hM
       simp only [pop, St.eval, constSlot, upd_at, Nat.reduceEqDiff, if_true, if_false, eq_self, true_and, and_true, str_list, str_size, str_app, str_cut, str_get, e0_2, e0_1, e0_6, e0_7, encPV, s'.1]
       exact hM _ (.refl _)
      refine lex_done fun hq sq => ?_
      skip
      refine pops_done (hR27 _ ?_)
      clear hR27 R27
      try simp only [thenK, scopeK]
      refine hN26 _ ?_
      clear hN26 N26
      refine pwp_then fun N28 hN28 => ?_
      refine pwp_then fun N29 hN29 => ?_
      refine pwp_reg fun R30 hR30 => ?_
      refine pops_mv (.inl rfl) rfl (by simp only [St.eval, upd_at, Nat.reduceEqDiff, if_true, if_false, e0_2, e0_1, e0_6, e0_7, encPV] <;> rfl) ?_
      refine pops_to rfl fun M hM => ?_
      simp only [pop, St.eval, constSlot, upd_at, Nat.reduceEqDiff, if_true, if_false, popBin, binK, intK, strK, eqK, eq_self, true_and, and_true, e0_2, e0_1, e0_6, e0_7, encPV]
      refine hM _ _ ?_
      clear hM M
      refine pops_mv (.inl rfl) rfl (by simp only [St.eval, upd_at, Nat.reduceEqDiff, if_true, if_false, e0_2, e0_1, e0_6, e0_7, encPV] <;> rfl) ?_
      apply pops_or0 3 49 52 [50, 51] (by simp only [upd_at, Nat.reduceEqDiff, if_true, if_false, e0_2, e0_1, e0_6, e0_7, encPV] <;> rfl)
      ·skip
       intro g49_0 J31 hJ31
       simp only [List.take_succ_cons, List.take_zero]
       simp only [anyAt_cons, anyAt_nil] at hJ31
       refine pops_mvg (.inl rfl) rfl rfl (by simp only [upd_at, Nat.reduceEqDiff, if_true, if_false, e0_2, e0_1, e0_6, e0_7, encPV, g49_0]) (by simp only [St.eval, upd_at, Nat.reduceEqDiff, if_true, if_false, e0_2, e0_1, e0_6, e0_7, encPV, g49_0] <;> rfl) ?_
       refine pops_do rfl rfl (by simp only [upd_at, Nat.reduceEqDiff, if_true, if_false, e0_2, e0_1, e0_6, e0_7, encPV, g49_0]) fun M hM => ?_
       simp only [pop, St.eval, constSlot, upd_at, Nat.reduceEqDiff, if_true, if_false, popBin, binK, intK, strK, eqK, eq_self, true_and, and_true, e0_2, e0_1, e0_6, e0_7, encPV, g49_0]
       refine hM _ _ ?_
       clear hM M
       refine pops_to rfl fun M hM => ?_
       simp only [pop, St.eval, constSlot, upd_at, Nat.reduceEqDiff, if_true, if_false, popIf, true_implies, false_implies, Bool.true_eq_false, Bool.false_eq_true, reduceCtorEq, true_and, and_true, e0_2, e0_1, e0_6, e0_7, encPV, g49_0]
       refine hM _ _ ?_
       clear hM M
       exact pops_done (hJ31 _ (wk_same (wk_any ((wk_any (Wk.refl _ _))))))
      ·skip
       intro g49_0 J31 hJ31
       simp only [List.take_succ_cons, List.take_zero]
       simp only [anyAt_cons, anyAt_nil] at hJ31
       refine pops_off (b := true) rfl rfl (by simp only [upd_at, Nat.reduceEqDiff, if_true, if_false, e0_2, e0_1, e0_6, e0_7, encPV, g49_0]) (by decide) ?_
       refine pops_off (b := true) rfl rfl (by simp only [upd_at, Nat.reduceEqDiff, if_true, if_false, e0_2, e0_1, e0_6, e0_7, encPV, g49_0]) (by decide) ?_
       refine pops_to rfl fun M hM => ?_
       simp only [pop, St.eval, constSlot, upd_at, Nat.reduceEqDiff, if_true, if_false, popIf, true_implies, false_implies, Bool.true_eq_false, Bool.false_eq_true, reduceCtorEq, true_and, and_true, e0_2, e0_1, e0_6, e0_7, encPV, g49_0]
       refine hM _ _ ?_
       clear hM M
       exact pops_done (hJ31 _ (wk_same (wk_any ((wk_any (Wk.refl _ _))))))
      simp only [List.drop_succ_cons, List.drop_zero, anyAt_cons, anyAt_nil]
      refine pops_done (hR30 _ ?_)
      clear hR30 R30
      try simp only [thenK, scopeK]
      refine hN29 _ ?_
      clear hN29 N29
      refine pwp_cond (by simp only [St.eval, upd_at, Nat.reduceEqDiff, if_true, if_false, e0_2, e0_1, e0_6, e0_7, encPV] <;> rfl) (fun c52 => ?_) (fun c52 => ?_)
      ·skip
       have hv : hexV d = none ∨ hexV e2 = none := by
         rcases hexI_all d with h1 | ⟨a, h1, h2, h3⟩
         · exact .inl h1.1
         · rcases hexI_all e2 with h4 | ⟨b, h4, h5, h6⟩
           · exact .inr h4.1
           · rw [h3, h6] at c52; simp at c52; omega
       have hd0 := dec_hbad hx hc37 hd he2 hv hx0_1
       have hdn : decR x s = ([], 6) := by rw [decR_ref hmax, decRef, if_pos hp, hd0]
       refine pwp_then fun N32 hN32 => ?_
       refine pwp_reg fun R33 hR33 => ?_
       refine pops_mv (.inr rfl) rfl (by simp only [St.eval, constSlot] <;> rfl) ?_
       refine pops_mv (.inr rfl) rfl (by simp only [St.eval, constSlot] <;> rfl) ?_
       refine pops_done (hR33 _ ?_)
       clear hR33 R33
       try simp only [thenK, scopeK]
       refine hN32 _ ?_
       clear hN32 N32
       refine pwp_ret ?_
       simp only [thenK, blockK, scopeK, bodyK]
       clear hN28 N28 hN16 N16 hN10 N10
       exact ⟨_, rfl, by rw [hdn]; exact endKeeps2 (hk0.trans (Same.keeps sq)) rfl⟩
      ·skip
       obtain ⟨a, ha16, hva, hia⟩ : ∃ a, a < 16 ∧ hexV d = some a ∧ Lib.indexByte HEXL d = (a : Int) := by
         rcases hexI_all d with h1 | h1
         · rw [h1.2] at c52; simp at c52
         · exact h1
       obtain ⟨b, hb16, hvb, hib⟩ : ∃ a, a < 16 ∧ hexV e2 = some a ∧ Lib.indexByte HEXL e2 = (a : Int) := by
         rcases hexI_all e2 with h1 | h1
         · rw [h1.2] at c52; simp at c52
         · exact h1
       have hj := hexJoin a b ha16 hb16
       refine pwp_skip ?_
       try simp only [thenK, scopeK]
       refine hN28 _ ?_
       clear hN28 N28
       refine pwp_then fun N34 hN34 => ?_
       refine pwp_reg fun R35 hR35 => ?_
       refine pops_mv (.inl rfl) rfl (by simp only [St.eval, upd_at, Nat.reduceEqDiff, if_true, if_false, e0_2, e0_1, e0_6, e0_7, encPV] <;> rfl) ?_
       refine pops_to rfl fun M hM => ?_
       simp only [pop, St.eval, constSlot, upd_at, Nat.reduceEqDiff, if_true, if_false, eq_self, true_and, and_true, str_list, str_size, str_app, str_cut, str_get, e0_2, e0_1, e0_6, e0_7, encPV, hia]
       refine hM _ _ ?_
       clear hM M
       refine pops_to rfl fun M hM => ?_
       simp only [pop, St.eval, constSlot, upd_at, Nat.reduceEqDiff, if_true, if_false, popBin, binK, intK, strK, eqK, eq_self, true_and, and_true, e0_2, e0_1, e0_6, e0_7, encPV]
       refine ⟨by decide, hM _ _ ?_⟩
       clear hM M
       refine pops_to rfl fun M hM => ?_
       simp only [pop, St.eval, constSlot, upd_at, Nat.reduceEqDiff, if_true, if_false, eq_self, true_and, and_true, str_list, str_size, str_app, str_cut, str_get, e0_2, e0_1, e0_6, e0_7, encPV, hib]
       refine hM _ _ ?_
       clear hM M
       refine pops_to rfl fun M hM => ?_
       simp only [pop, St.eval, constSlot, upd_at, Nat.reduceEqDiff, if_true, if_false, popBin, binK, intK, strK, eqK, eq_self, true_and, and_true, e0_2, e0_1, e0_6, e0_7, encPV]
       refine hM _ _ ?_
       clear hM M
       refine pops_to rfl fun M hM => ?_
       simp only [pop, St.eval, constSlot, upd_at, Nat.reduceEqDiff, if_true, if_false, popConvert, Tryd.underlying3, Tryd.underlying5, eq_self, true_and, and_true, str_list, str_size, str_app, str_cut, str_get, e0_2, e0_1, e0_6, e0_7, encPV, hj]
       refine hM _ _ ?_
       clear hM M
       refine pops_to rfl fun M hM => ?_
       simp only [pop, St.eval, constSlot, upd_at, Nat.reduceEqDiff, if_true, if_false, popBuildSlice, slotCells, List.toList_toArray, List.map_cons, List.map_nil, List.mapM_cons, List.mapM_nil, Option.bind_eq_bind, Option.bind_some, Option.pure_def, Tryd.underlying73, sz5, ze5, by5, eq_self, true_and, and_true, str_list, str_size, str_app, str_cut, str_get, e0_2, e0_1, e0_6, e0_7, encPV]
       refine ⟨by decide, by decide, rfl, rfl, by simp, by decide, rfl, hM _ _ ?_⟩
       clear hM M
       refine pops_to rfl fun M hM => ?_
       simp only [pop, St.eval, constSlot, upd_at, Nat.reduceEqDiff, if_true, if_false, popCall, List.toList_toArray, List.map_cons, List.map_nil, popBuiltin, eq_self, true_and, and_true, str_list, str_size, str_app, str_cut, str_get, e0_2, e0_1, e0_6, e0_7, encPV]
       refine row_app (ys := ([UInt8.ofNat (a * 16 + b)] : List UInt8).map byteCell) hb Tryd.underlying73 sz5 by5 ze5 rfl (by decide) (ho.same sq) (hk0.trans (Same.keeps sq)) rfl (.inr rfl) ⟨by simp; omega, by simp; omega⟩ fun sl2 hp2 ho2 hk2 => hM _ _ ?_
       clear hM M
       refine pops_mv (.inr rfl) rfl (by simp only [St.eval, upd_at, Nat.reduceEqDiff, if_true, if_false, e0_2, e0_1, e0_6, e0_7, encPV] <;> rfl) ?_
       refine pops_done (hR35 _ ?_)
       clear hR35 R35
       try simp only [thenK, scopeK]
       refine hN34 _ ?_
       clear hN34 N34
       refine pwp_reg fun R36 hR36 => ?_
       refine pops_mv (.inl rfl) rfl (by simp only [St.eval, upd_at, Nat.reduceEqDiff, if_true, if_false, e0_2, e0_1, e0_6, e0_7, encPV] <;> rfl) ?_
       refine pops_to rfl fun M hM => ?_
       simp only [pop, St.eval, constSlot, upd_at, Nat.reduceEqDiff, if_true, if_false, popBin, binK, intK, strK, eqK, eq_self, true_and, and_true, e0_2, e0_1, e0_6, e0_7, encPV, hw2]
       refine hM _ _ ?_
       clear hM M
       refine pops_mv (.inr rfl) rfl (by simp only [St.eval, upd_at, Nat.reduceEqDiff, if_true, if_false, e0_2, e0_1, e0_6, e0_7, encPV] <;> rfl) ?_
       refine pops_done (hR36 _ ?_)
       clear hR36 R36
       try simp only [blockK, thenK, scopeK]
       try simp only [blockK, thenK, scopeK]
       try simp only [thenK, scopeK]
       refine hN16 _ ?_
       clear hN16 N16
       refine pwp_reg fun R37 hR37 => ?_
       refine pops_mv (.inl rfl) rfl (by simp only [St.eval, upd_at, Nat.reduceEqDiff, if_true, if_false, e0_2, e0_1, e0_6, e0_7, encPV] <;> rfl) ?_
       refine pops_to rfl fun M hM => ?_
       simp only [pop, St.eval, constSlot, upd_at, Nat.reduceEqDiff, if_true, if_false, popBin, binK, intK, strK, eqK, eq_self, true_and, and_true, e0_2, e0_1, e0_6, e0_7, encPV]
       refine hM _ _ ?_
       clear hM M
       refine pops_mv (.inr rfl) rfl (by simp only [St.eval, upd_at, Nat.reduceEqDiff, if_true, if_false, e0_2, e0_1, e0_6, e0_7, encPV] <;> rfl) ?_
       refine pops_done (hR37 _ ?_)
       clear hR37 R37
       try simp only [thenK, scopeK]
       exact ⟨_, by omega, _, .refl _ _, i + 3, sl2, out ++ [UInt8.ofNat (a * 16 + b)], rfl, by omega, dec_hex hx hc37 hd he2 hva hvb hx0_1, by simp; omega, ⟨hk2, by rw [List.map_append]; exact ho2⟩, by simp only [upd_at, Nat.reduceEqDiff, if_true, if_false, e0_2, e0_1, e0_6, e0_7, encPV], by simp only [upd_at, Nat.reduceEqDiff, if_true, if_false, e0_2, e0_1, e0_6, e0_7, encPV], by simp only [upd_at, Nat.reduceEqDiff, if_true, if_false, e0_2, e0_1, e0_6, e0_7, encPV], by simp only [upd_at, Nat.reduceEqDiff, if_true, if_false, e0_7, hw1, hw2, hw3, hw4]⟩
    ·skip
     rw [u8_37] at c29
     have hc37 : c ≠ 37 := by simpa using c29
     refine pwp_then fun N38 hN38 => ?_
     refine pwp_reg fun R39 hR39 => ?_
     refine pops_mv (.inl rfl) rfl (by simp only [St.eval, upd_at, Nat.reduceEqDiff, if_true, if_false, e0_2, e0_1, e0_6, e0_7, encPV] <;> rfl) ?_
     refine pops_to rfl fun M hM => ?_
     simp only [pop, St.eval, constSlot, upd_at, Nat.reduceEqDiff, if_true, if_false, popBin, binK, intK, strK, eqK, Tryd.underlying5, isPtr, eq_self, true_and, and_true, e0_2, e0_1, e0_6, e0_7, encPV]
     refine hM _ _ ?_
     clear hM M
     refine pops_mv (.inl rfl) rfl (by simp only [St.eval, upd_at, Nat.reduceEqDiff, if_true, if_false, e0_2, e0_1, e0_6, e0_7, encPV] <;> rfl) ?_
     apply pops_and0 3 66 69 [67, 68] (by simp only [upd_at, Nat.reduceEqDiff, if_true, if_false, e0_2, e0_1, e0_6, e0_7, encPV] <;> rfl)
     ·skip
      intro g66_0 J40 hJ40
      simp only [List.take_succ_cons, List.take_zero]
      simp only [anyAt_cons, anyAt_nil] at hJ40
      refine pops_do rfl rfl (by simp only [upd_at, Nat.reduceEqDiff, if_true, if_false, e0_2, e0_1, e0_6, e0_7, encPV, g66_0]) fun M hM => ?_
      simp only [pop, St.eval, constSlot, upd_at, Nat.reduceEqDiff, if_true, if_false, popFieldAddr, fieldOf, List.drop_succ_cons, List.drop_zero, List.getElem?_toArray, List.getElem?_cons_zero, List.getElem?_cons_succ, Tryd.underlying64, sz4, e0_2, e0_1, e0_6, e0_7, encPV, g66_0]
      refine ⟨⟨_, rfl⟩, hM _ _ ?_⟩
      clear hM M
      refine pops_do rfl rfl (by simp only [upd_at, Nat.reduceEqDiff, if_true, if_false, e0_2, e0_1, e0_6, e0_7, encPV, g66_0]) fun M hM => ?_
      simp only [pop, St.eval, constSlot, upd_at, Nat.reduceEqDiff, if_true, if_false, popLoad, loadK, isAggD, List.drop_zero, List.getElem?_toArray, List.getElem?_cons_zero, List.getElem?_cons_succ, Bool.false_eq_true, Tryd.underlying4, sz4, eq_self, true_and, and_true, e0_2, e0_1, e0_6, e0_7, encPV, g66_0]
      refine hM _ _ ?_
      clear hM M
      refine pops_to rfl fun M hM => ?_
      simp only [pop, St.eval, constSlot, upd_at, Nat.reduceEqDiff, if_true, if_false, popIf, true_implies, false_implies, Bool.true_eq_false, Bool.false_eq_true, reduceCtorEq, true_and, and_true, e0_2, e0_1, e0_6, e0_7, encPV, g66_0]
      refine hM _ _ ?_
      clear hM M
      exact pops_done (hJ40 _ (wk_same (wk_any ((wk_any (Wk.refl _ _))))))
     ·skip
      intro g66_0 J40 hJ40
      simp only [List.take_succ_cons, List.take_zero]
      simp only [anyAt_cons, anyAt_nil] at hJ40
      refine pops_off (b := false) rfl rfl (by simp only [upd_at, Nat.reduceEqDiff, if_true, if_false, e0_2, e0_1, e0_6, e0_7, encPV, g66_0]) (by decide) ?_
      refine pops_off (b := false) rfl rfl (by simp only [upd_at, Nat.reduceEqDiff, if_true, if_false, e0_2, e0_1, e0_6, e0_7, encPV, g66_0]) (by decide) ?_
      refine pops_to rfl fun M hM => ?_
      simp only [pop, St.eval, constSlot, upd_at, Nat.reduceEqDiff, if_true, if_false, popIf, true_implies, false_implies, Bool.true_eq_false, Bool.false_eq_true, reduceCtorEq, true_and, and_true, e0_2, e0_1, e0_6, e0_7, encPV, g66_0]
      refine hM _ _ ?_
      clear hM M
      exact pops_done (hJ40 _ (wk_same (wk_any ((wk_any (Wk.refl _ _))))))
     simp only [List.drop_succ_cons, List.drop_zero, anyAt_cons, anyAt_nil]
     refine pops_mv (.inr rfl) rfl (by simp only [St.eval, upd_at, Nat.reduceEqDiff, if_true, if_false, e0_2, e0_1, e0_6, e0_7, encPV] <;> rfl) ?_
     refine pops_done (hR39 _ ?_)
     clear hR39 R39
     try simp only [thenK, scopeK]
     refine hN38 _ ?_
     clear hN38 N38
     refine pwp_cond (by simp only [St.eval, upd_at, Nat.reduceEqDiff, if_true, if_false, e0_2, e0_1, e0_6, e0_7, encPV] <;> rfl) (fun c63 => ?_) (fun c63 => ?_)
     ·skip
      rw [u8_94] at c63
      have hc94 : x.kase = true ∧ c = 94 := by simpa [and_comm] using c63
      refine pwp_then fun N41 hN41 => ?_
      refine pwp_then fun N42 hN42 => ?_
      refine pwp_reg fun R43 hR43 => ?_
      refine pops_mv (.inl rfl) rfl (by simp only [St.eval, upd_at, Nat.reduceEqDiff, if_true, if_false, e0_2, e0_1, e0_6, e0_7, encPV] <;> rfl) ?_
      refine pops_to rfl fun M hM => ?_
      simp only [pop, St.eval, constSlot, upd_at, Nat.reduceEqDiff, if_true, if_false, popBin, binK, intK, strK, eqK, eq_self, true_and, and_true, e0_2, e0_1, e0_6, e0_7, encPV, hw1]
      refine hM _ _ ?_
      clear hM M
      refine pops_mv (.inl rfl) rfl (by simp only [St.eval, upd_at, Nat.reduceEqDiff, if_true, if_false, e0_2, e0_1, e0_6, e0_7, encPV] <;> rfl) ?_
      refine pops_to rfl fun M hM => ?_
      simp only [pop, St.eval, constSlot, upd_at, Nat.reduceEqDiff, if_true, if_false, popCall, List.toList_toArray, List.map_cons, List.map_nil, popBuiltin, popLen, lenOfSlot, List.length_map, Tryd.underlying9, eq_self, true_and, and_true, str_list, str_size, str_app, str_cut, str_get, e0_2, e0_1, e0_6, e0_7, encPV]
      refine hM _ _ ?_
      clear hM M
      refine pops_to rfl fun M hM => ?_
      simp only [pop, St.eval, constSlot, upd_at, Nat.reduceEqDiff, if_true, if_false, popBin, binK, intK, strK, eqK, Tryd.underlying3, isPtr, eq_self, true_and, and_true, e0_2, e0_1, e0_6, e0_7, encPV]
      refine hM _ _ ?_
      clear hM M
      refine pops_done (hR43 _ ?_)
      clear hR43 R43
      try simp only [thenK, scopeK]
      refine hN42 _ ?_
      clear hN42 N42
      refine pwp_cond (by simp only [St.eval, upd_at, Nat.reduceEqDiff, if_true, if_false, e0_2, e0_1, e0_6, e0_7, encPV] <;> rfl) (fun c74 => ?_) (fun c74 => ?_)
      ·skip
       have hlen2 : s.length ≤ i + 1 := by simp at c74; omega
       have hd0 := dec_cshort hx hc94.2 hc94.1 hlen2 hx0_1
       have hdn : decR x s = ([], 6) := by rw [decR_ref hmax, decRef, if_pos hp, hd0]
       refine pwp_then fun N44 hN44 => ?_
       refine pwp_reg fun R45 hR45 => ?_
       refine pops_mv (.inr rfl) rfl (by simp only [St.eval, constSlot] <;> rfl) ?_
       refine pops_mv (.inr rfl) rfl (by simp only [St.eval, constSlot] <;> rfl) ?_
       refine pops_done (hR45 _ ?_)
       clear hR45 R45
       try simp only [thenK, scopeK]
       refine hN44 _ ?_
       clear hN44 N44
       refine pwp_ret ?_
       simp only [thenK, blockK, scopeK, bodyK]
       clear hN41 N41 hN16 N16 hN10 N10
       exact ⟨_, rfl, by rw [hdn]; exact endKeeps2 (hk0.trans (Same.keeps (Same.refl _))) rfl⟩
      ·skip
       have hlen2 : i + 1 < s.length := by simp at c74; omega
       obtain ⟨d, hd⟩ : ∃ d, s[i + 1]? = some d := ⟨_, List.getElem?_eq_getElem hlen2⟩
       refine pwp_skip ?_
       try simp only [thenK, scopeK]
       refine hN41 _ ?_
       clear hN41 N41
       refine pwp_then fun N46 hN46 => ?_
       refine pwp_reg fun R47 hR47 => ?_
       refine pops_mv (.inl rfl) rfl (by simp only [St.eval, upd_at, Nat.reduceEqDiff, if_true, if_false, e0_2, e0_1, e0_6, e0_7, encPV] <;> rfl) ?_
       refine pops_to rfl fun M hM => ?_
       simp only [pop, St.eval, constSlot, upd_at, Nat.reduceEqDiff, if_true, if_false, popBin, binK, intK, strK, eqK, eq_self, true_and, and_true, e0_2, e0_1, e0_6, e0_7, encPV, hw1]
       refine hM _ _ ?_
       clear hM M
       refine pops_mv (.inr rfl) rfl (by simp only [St.eval, upd_at, Nat.reduceEqDiff, if_true, if_false, e0_2, e0_1, e0_6, e0_7, encPV] <;> rfl) ?_
       refine pops_done (hR47 _ ?_)
       clear hR47 R47
       try simp only [thenK, scopeK]
       refine hN46 _ ?_
       clear hN46 N46
       refine pwp_then fun N48 hN48 => ?_
       refine pwp_then fun N49 hN49 => ?_
       refine pwp_reg fun R50 hR50 => ?_
       refine pops_mv (.inl rfl) rfl (by simp only [St.eval, upd_at, Nat.reduceEqDiff, if_true, if_false, e0_2, e0_1, e0_6, e0_7, encPV] <;> rfl) ?_
       refine pops_mv (.inl rfl) rfl (by simp only [St.eval, upd_at, Nat.reduceEqDiff, if_true, if_false, e0_2, e0_1, e0_6, e0_7, encPV] <;> rfl) ?_
       refine pops_to rfl fun M hM => ?_
       simp only [pop, St.eval, constSlot, upd_at, Nat.reduceEqDiff, if_true, if_false, popIndex, partK, Tryd.underlying9, eq_self, true_and, and_true, str_list, str_size, str_app, str_cut, str_get, e0_2, e0_1, e0_6, e0_7, encPV, hd, Int.toNat_natCast]
       refine ⟨Int.natCast_nonneg _, hM _ _ ?_⟩
       clear hM M
       refine pops_mv (.inr rfl) rfl (by simp only [St.eval, upd_at, Nat.reduceEqDiff, if_true, if_false, e0_2, e0_1, e0_6, e0_7, encPV] <;> rfl) ?_
       refine pops_done (hR50 _ ?_)
       clear hR50 R50
       try simp only [thenK, scopeK]
       refine hN49 _ ?_
       clear hN49 N49
       refine pwp_then fun N51 hN51 => ?_
       refine pwp_reg fun R52 hR52 => ?_
       refine pops_mv (.inl rfl) rfl (by simp only [St.eval, upd_at, Nat.reduceEqDiff, if_true, if_false, e0_2, e0_1, e0_6, e0_7, encPV] <;> rfl) ?_
       refine pops_to rfl fun M hM => ?_
       simp only [pop, St.eval, constSlot, upd_at, Nat.reduceEqDiff, if_true, if_false, popBin, binK, intK, strK, eqK, eq_self, true_and, and_true, e0_2, e0_1, e0_6, e0_7, encPV]
       refine hM _ _ ?_
       clear hM M
       refine pops_mv (.inl rfl) rfl (by simp only [St.eval, upd_at, Nat.reduceEqDiff, if_true, if_false, e0_2, e0_1, e0_6, e0_7, encPV] <;> rfl) ?_
       apply pops_and0 3 82 85 [83, 84] (by simp only [upd_at, Nat.reduceEqDiff, if_true, if_false, e0_2, e0_1, e0_6, e0_7, encPV] <;> rfl)
       ·skip
        intro g82_0 J53 hJ53
        simp only [List.take_succ_cons, List.take_zero]
        simp only [anyAt_cons, anyAt_nil] at hJ53
        refine pops_mvg (.inl rfl) rfl rfl (by simp only [upd_at, Nat.reduceEqDiff, if_true, if_false, e0_2, e0_1, e0_6, e0_7, encPV, g82_0]) (by simp only [St.eval, upd_at, Nat.reduceEqDiff, if_true, if_false, e0_2, e0_1, e0_6, e0_7, encPV, g82_0] <;> rfl) ?_
        refine pops_do rfl rfl (by simp only [upd_at, Nat.reduceEqDiff, if_true, if_false, e0_2, e0_1, e0_6, e0_7, encPV, g82_0]) fun M hM => ?_
        simp only [pop, St.eval, constSlot, upd_at, Nat.reduceEqDiff, if_true, if_false, popBin, binK, intK, strK, eqK, eq_self, true_and, and_true, e0_2, e0_1, e0_6, e0_7, encPV, g82_0]
        refine hM _ _ ?_
        clear hM M
        refine pops_to rfl fun M hM => ?_
        simp only [pop, St.eval, constSlot, upd_at, Nat.reduceEqDiff, if_true, if_false, popIf, true_implies, false_implies, Bool.true_eq_false, Bool.false_eq_true, reduceCtorEq, true_and, and_true, e0_2, e0_1, e0_6, e0_7, encPV, g82_0]
        refine hM _ _ ?_
        clear hM M
        exact pops_done (hJ53 _ (wk_same (wk_any ((wk_any (Wk.refl _ _))))))
       ·skip
        intro g82_0 J53 hJ53
        simp only [List.take_succ_cons, List.take_zero]
        simp only [anyAt_cons, anyAt_nil] at hJ53
        refine pops_off (b := false) rfl rfl (by simp only [upd_at, Nat.reduceEqDiff, if_true, if_false, e0_2, e0_1, e0_6, e0_7, encPV, g82_0]) (by decide) ?_
        refine pops_off (b := false) rfl rfl (by simp only [upd_at, Nat.reduceEqDiff, if_true, if_false, e0_2, e0_1, e0_6, e0_7, encPV, g82_0]) (by decide) ?_
        refine pops_to rfl fun M hM => ?_
        simp only [pop, St.eval, constSlot, upd_at, Nat.reduceEqDiff, if_true, if_false, popIf, true_implies, false_implies, Bool.true_eq_false, Bool.false_eq_true, reduceCtorEq, true_and, and_true, e0_2, e0_1, e0_6, e0_7, encPV, g82_0]
        refine hM _ _ ?_
        clear hM M
        exact pops_done (hJ53 _ (wk_same (wk_any ((wk_any (Wk.refl _ _))))))
       simp only [List.drop_succ_cons, List.drop_zero, anyAt_cons, anyAt_nil]
       refine pops_done (hR52 _ ?_)
       clear hR52 R52
       try simp only [thenK, scopeK]
       refine hN51 _ ?_
       clear hN51 N51
       refine pwp_cond (by simp only [St.eval, upd_at, Nat.reduceEqDiff, if_true, if_false, e0_2, e0_1, e0_6, e0_7, encPV] <;> rfl) (fun c85 => ?_) (fun c85 => ?_)
       ·skip
        have hup : 97 ≤ d.toNat ∧ d.toNat ≤ 122 := by simp at c85; omega
        have hu := upC_yes hup
        refine pwp_reg fun R54 hR54 => ?_
        refine pops_mv (.inl rfl) rfl (by simp only [St.eval, upd_at, Nat.reduceEqDiff, if_true, if_false, e0_2, e0_1, e0_6, e0_7, encPV] <;> rfl) ?_
        refine pops_to rfl fun M hM => ?_
        simp only [pop, St.eval, constSlot, upd_at, Nat.reduceEqDiff, if_true, if_false, popBin, binK, intK, strK, eqK, eq_self, true_and, and_true, e0_2, e0_1, e0_6, e0_7, encPV, hu.2]
        refine hM _ _ ?_
        clear hM M
        refine pops_mv (.inr rfl) rfl (by simp only [St.eval, upd_at, Nat.reduceEqDiff, if_true, if_false, e0_2, e0_1, e0_6, e0_7, encPV] <;> rfl) ?_
        refine pops_done (hR54 _ ?_)
        clear hR54 R54
        try simp only [thenK, scopeK]
        refine hN48 _ ?_
        clear hN48 N48
        refine pwp_reg fun R55 hR55 => ?_
        refine pops_mv (.inl rfl) rfl (by simp only [St.eval, upd_at, Nat.reduceEqDiff, if_true, if_false, e0_2, e0_1, e0_6, e0_7, encPV] <;> rfl) ?_
        refine pops_to rfl fun M hM => ?_
        simp only [pop, St.eval, constSlot, upd_at, Nat.reduceEqDiff, if_true, if_false, eq_self, true_and, and_true, str_list, str_size, str_app, str_cut, str_get, e0_2, e0_1, e0_6, e0_7, encPV]
        refine hM _ _ ?_
        clear hM M
        refine pops_to rfl fun M hM => ?_
        simp only [pop, St.eval, constSlot, upd_at, Nat.reduceEqDiff, if_true, if_false, popBuildSlice, slotCells, List.toList_toArray, List.map_cons, List.map_nil, List.mapM_cons, List.mapM_nil, Option.bind_eq_bind, Option.bind_some, Option.pure_def, Tryd.underlying73, sz5, ze5, by5, eq_self, true_and, and_true, str_list, str_size, str_app, str_cut, str_get, e0_2, e0_1, e0_6, e0_7, encPV]
        refine ⟨by decide, by decide, rfl, rfl, by simp, by decide, rfl, hM _ _ ?_⟩
        clear hM M
        refine pops_to rfl fun M hM => ?_
        simp only [pop, St.eval, constSlot, upd_at, Nat.reduceEqDiff, if_true, if_false, popCall, List.toList_toArray, List.map_cons, List.map_nil, popBuiltin, eq_self, true_and, and_true, str_list, str_size, str_app, str_cut, str_get, e0_2, e0_1, e0_6, e0_7, encPV]
        first
          | rw [show d = upC d from hup.symm]
          | skip
        refine row_app (ys := ([upC d] : List UInt8).map byteCell) hb Tryd.underlying73 sz5 by5 ze5 rfl (by decide) (ho.same (Same.refl _)) (hk0.trans (Same.keeps (Same.refl _))) rfl (.inr rfl) ⟨by simp; omega, by simp; omega⟩ fun sl2 hp2 ho2 hk2 => hM _ _ ?_
        clear hM M
        refine pops_mv (.inr rfl) rfl (by simp only [St.eval, upd_at, Nat.reduceEqDiff, if_true, if_false, e0_2, e0_1, e0_6, e0_7, encPV] <;> rfl) ?_
        refine pops_done (hR55 _ ?_)
        clear hR55 R55
        try simp only [blockK, thenK, scopeK]
        try simp only [blockK, thenK, scopeK]
        try simp only [thenK, scopeK]
        refine hN16 _ ?_
        clear hN16 N16
        refine pwp_reg fun R56 hR56 => ?_
        refine pops_mv (.inl rfl) rfl (by simp only [St.eval, upd_at, Nat.reduceEqDiff, if_true, if_false, e0_2, e0_1, e0_6, e0_7, encPV] <;> rfl) ?_
        refine pops_to rfl fun M hM => ?_
        simp only [pop, St.eval, constSlot, upd_at, Nat.reduceEqDiff, if_true, if_false, popBin, binK, intK, strK, eqK, eq_self, true_and, and_true, e0_2, e0_1, e0_6, e0_7, encPV]
        refine hM _ _ ?_
        clear hM M
        refine pops_mv (.inr rfl) rfl (by simp only [St.eval, upd_at, Nat.reduceEqDiff, if_true, if_false, e0_2, e0_1, e0_6, e0_7, encPV] <;> rfl) ?_
        refine pops_done (hR56 _ ?_)
        clear hR56 R56
        try simp only [thenK, scopeK]
        exact ⟨_, by omega, _, .refl _ _, i + 2, sl2, out ++ [upC d], rfl, by omega, dec_case hx hc94.2 hc94.1 hd hx0_1, by simp; omega, ⟨hk2, by rw [List.map_append]; exact ho2⟩, by simp only [upd_at, Nat.reduceEqDiff, if_true, if_false, e0_2, e0_1, e0_6, e0_7, encPV], by simp only [upd_at, Nat.reduceEqDiff, if_true, if_false, e0_2, e0_1, e0_6, e0_7, encPV], by simp only [upd_at, Nat.reduceEqDiff, if_true, if_false, e0_2, e0_1, e0_6, e0_7, encPV], by simp only [upd_at, Nat.reduceEqDiff, if_true, if_false, e0_7, hw1, hw2, hw3, hw4]⟩
       ·skip
        have hup := upC_no (d := d) (by intro h; simp at c85; omega)
        refine pwp_skip ?_
        try simp only [thenK, scopeK]
        refine hN48 _ ?_
        clear hN48 N48
        refine pwp_reg fun R57 hR57 => ?_
        refine pops_mv (.inl rfl) rfl (by simp only [St.eval, upd_at, Nat.reduceEqDiff, if_true, if_false, e0_2, e0_1, e0_6, e0_7, encPV] <;> rfl) ?_
        refine pops_to rfl fun M hM => ?_
        simp only [pop, St.eval, constSlot, upd_at, Nat.reduceEqDiff, if_true, if_false, eq_self, true_and, and_true, str_list, str_size, str_app, str_cut, str_get, e0_2, e0_1, e0_6, e0_7, encPV]
        refine hM _ _ ?_
        clear hM M
        refine pops_to rfl fun M hM => ?_
        simp only [pop, St.eval, constSlot, upd_at, Nat.reduceEqDiff, if_true, if_false, popBuildSlice, slotCells, List.toList_toArray, List.map_cons, List.map_nil, List.mapM_cons, List.mapM_nil, Option.bind_eq_bind, Option.bind_some, Option.pure_def, Tryd.underlying73, sz5, ze5, by5, eq_self, true_and, and_true, str_list, str_size, str_app, str_cut, str_get, e0_2, e0_1, e0_6, e0_7, encPV]
        refine ⟨by decide, by decide, rfl, rfl, by simp, by decide, rfl, hM _ _ ?_⟩
        clear hM M
        refine pops_to rfl fun M hM => ?_
        simp only [pop, St.eval, constSlot, upd_at, Nat.reduceEqDiff, if_true, if_false, popCall, List.toList_toArray, List.map_cons, List.map_nil, popBuiltin, eq_self, true_and, and_true, str_list, str_size, str_app, str_cut, str_get, e0_2, e0_1, e0_6, e0_7, encPV]
        first
          | rw [show d = upC d from hup.symm]
          | skip
        refine row_app (ys := ([upC d] : List UInt8).map byteCell) hb Tryd.underlying73 sz5 by5 ze5 rfl (by decide) (ho.same (Same.refl _)) (hk0.trans (Same.keeps (Same.refl _))) rfl (.inr rfl) ⟨by simp; omega, by simp; omega⟩ fun sl2 hp2 ho2 hk2 => hM _ _ ?_
        clear hM M
        refine pops_mv (.inr rfl) rfl (by simp only [St.eval, upd_at, Nat.reduceEqDiff, if_true, if_false, e0_2, e0_1, e0_6, e0_7, encPV] <;> rfl) ?_
        refine pops_done (hR57 _ ?_)
        clear hR57 R57
        try simp only [blockK, thenK, scopeK]
        try simp only [blockK, thenK, scopeK]
        try simp only [thenK, scopeK]
        refine hN16 _ ?_
        clear hN16 N16
        refine pwp_reg fun R58 hR58 => ?_
        refine pops_mv (.inl rfl) rfl (by simp only [St.eval, upd_at, Nat.reduceEqDiff, if_true, if_false, e0_2, e0_1, e0_6, e0_7, encPV] <;> rfl) ?_
        refine pops_to rfl fun M hM => ?_
        simp only [pop, St.eval, constSlot, upd_at, Nat.reduceEqDiff, if_true, if_false, popBin, binK, intK, strK, eqK, eq_self, true_and, and_true, e0_2, e0_1, e0_6, e0_7, encPV]
        refine hM _ _ ?_
        clear hM M
        refine pops_mv (.inr rfl) rfl (by simp only [St.eval, upd_at, Nat.reduceEqDiff, if_true, if_false, e0_2, e0_1, e0_6, e0_7, encPV] <;> rfl) ?_
        refine pops_done (hR58 _ ?_)
        clear hR58 R58
        try simp only [thenK, scopeK]
        exact ⟨_, by omega, _, .refl _ _, i + 2, sl2, out ++ [upC d], rfl, by omega, dec_case hx hc94.2 hc94.1 hd hx0_1, by simp; omega, ⟨hk2, by rw [List.map_append]; exact ho2⟩, by simp only [upd_at, Nat.reduceEqDiff, if_true, if_false, e0_2, e0_1, e0_6, e0_7, encPV], by simp only [upd_at, Nat.reduceEqDiff, if_true, if_false, e0_2, e0_1, e0_6, e0_7, encPV], by simp only [upd_at, Nat.reduceEqDiff, if_true, if_false, e0_2, e0_1, e0_6, e0_7, encPV], by simp only [upd_at, Nat.reduceEqDiff, if_true, if_false, e0_7, hw1, hw2, hw3, hw4]⟩
     ·skip
      rw [u8_94] at c63
      have hc94 : ¬ (x.kase = true ∧ c = 94) := by rintro ⟨h1, h2⟩; simp [h1, h2] at c63
      refine pwp_reg fun R59 hR59 => ?_
      refine pops_mv (.inl rfl) rfl (by simp only [St.eval, upd_at, Nat.reduceEqDiff, if_true, if_false, e0_2, e0_1, e0_6, e0_7, encPV] <;> rfl) ?_
      refine pops_mv (.inl rfl) rfl (by simp only [St.eval, upd_at, Nat.reduceEqDiff, if_true, if_false, e0_2, e0_1, e0_6, e0_7, encPV] <;> rfl) ?_
      refine pops_to rfl fun M hM => ?_
      simp only [pop, St.eval, constSlot, upd_at, Nat.reduceEqDiff, if_true, if_false, popBuildSlice, slotCells, List.toList_toArray, List.map_cons, List.map_nil, List.mapM_cons, List.mapM_nil, Option.bind_eq_bind, Option.bind_some, Option.pure_def, Tryd.underlying73, sz5, ze5, by5, eq_self, true_and, and_true, str_list, str_size, str_app, str_cut, str_get, e0_2, e0_1, e0_6, e0_7, encPV]
      refine ⟨by decide, by decide, rfl, rfl, by simp, by decide, rfl, hM _ _ ?_⟩
      clear hM M
      refine pops_to rfl fun M hM => ?_
      simp only [pop, St.eval, constSlot, upd_at, Nat.reduceEqDiff, if_true, if_false, popCall, List.toList_toArray, List.map_cons, List.map_nil, popBuiltin, eq_self, true_and, and_true, str_list, str_size, str_app, str_cut, str_get, e0_2, e0_1, e0_6, e0_7, encPV]
      refine row_app (ys := ([c] : List UInt8).map byteCell) hb Tryd.underlying73 sz5 by5 ze5 rfl (by decide) (ho.same (Same.refl _)) (hk0.trans (Same.keeps (Same.refl _))) rfl (.inr rfl) ⟨by simp; omega, by simp; omega⟩ fun sl2 hp2 ho2 hk2 => hM _ _ ?_
      clear hM M
      refine pops_mv (.inr rfl) rfl (by simp only [St.eval, upd_at, Nat.reduceEqDiff, if_true, if_false, e0_2, e0_1, e0_6, e0_7, encPV] <;> rfl) ?_
      refine pops_done (hR59 _ ?_)
      clear hR59 R59
      try simp only [blockK, thenK, scopeK]
      try simp only [blockK, thenK, scopeK]
      try simp only [thenK, scopeK]
      refine hN16 _ ?_
      clear hN16 N16
      refine pwp_reg fun R60 hR60 => ?_
      refine pops_mv (.inl rfl) rfl (by simp only [St.eval, upd_at, Nat.reduceEqDiff, if_true, if_false, e0_2, e0_1, e0_6, e0_7, encPV] <;> rfl) ?_
      refine pops_to rfl fun M hM => ?_
      simp only [pop, St.eval, constSlot, upd_at, Nat.reduceEqDiff, if_true, if_false, popBin, binK, intK, strK, eqK, eq_self, true_and, and_true, e0_2, e0_1, e0_6, e0_7, encPV]
      refine hM _ _ ?_
      clear hM M
      refine pops_mv (.inr rfl) rfl (by simp only [St.eval, upd_at, Nat.reduceEqDiff, if_true, if_false, e0_2, e0_1, e0_6, e0_7, encPV] <;> rfl) ?_
      refine pops_done (hR60 _ ?_)
      clear hR60 R60
      try simp only [thenK, scopeK]
      exact ⟨_, by omega, _, .refl _ _, i + 1, sl2, out ++ [c], rfl, by omega, dec_plain hx hc37 hc94 hx0_1, by simp; omega, ⟨hk2, by rw [List.map_append]; exact ho2⟩, by simp only [upd_at, Nat.reduceEqDiff, if_true, if_false, e0_2, e0_1, e0_6, e0_7, encPV], by simp only [upd_at, Nat.reduceEqDiff, if_true, if_false, e0_2, e0_1, e0_6, e0_7, encPV], by simp only [upd_at, Nat.reduceEqDiff, if_true, if_false, e0_2, e0_1, e0_6, e0_7, encPV], by simp only [upd_at, Nat.reduceEqDiff, if_true, if_false, e0_7, hw1, hw2, hw3, hw4]⟩
   ·skip
    have hi := of_decide_eq_false c19
    have hfin := dec_fin hi hx0_1
    refine pwp_exit ?_
    try simp only [thenK, blockK, scopeK, if_true, Nat.reduceEqDiff, if_false]
    clear hN13 N13
    try simp only [blockK, scopeK, if_true, Nat.reduceEqDiff, if_false, thenK]
    try simp only [thenK, scopeK]
    refine hN10 _ ?_
    clear hN10 N10
    refine pwp_then fun N61 hN61 => ?_
    refine pwp_then fun N62 hN62 => ?_
    refine pwp_reg fun R63 hR63 => ?_
    refine pops_to rfl fun M hM => ?_
    simp only [pop, St.eval, constSlot, upd_at, Nat.reduceEqDiff, if_true, if_false, List.length_cons, List.length_nil, Nat.zero_add, Nat.reduceAdd, Nat.reduceLeDiff, List.take_zero, List.take_succ_cons, List.take_nil, List.drop_succ_cons, List.drop_zero, List.drop_nil, List.nil_append, List.cons_append, List.append_nil, and_self, List.getElem?_cons_zero, List.getElem?_cons_succ, List.set_cons_zero, List.set_cons_succ, Option.some.injEq, popLoad, loadK, isAggD, List.drop_zero, List.getElem?_toArray, List.getElem?_cons_zero, List.getElem?_cons_succ, Bool.false_eq_true, Tryd.underlying64, sz64, eq_self, true_and, and_true, e0_2, e0_1, e0_6, e0_7, encPV]
    refine hM _ _ ?_
    clear hM M
    refine pops_mv (.inl rfl) rfl (by simp only [St.eval, upd_at, Nat.reduceEqDiff, if_true, if_false, e0_2, e0_1, e0_6, e0_7, encPV] <;> rfl) ?_
    refine pops_to rfl fun M hM => ?_
    simp only [pop, St.eval, constSlot, upd_at, Nat.reduceEqDiff, if_true, if_false, eq_self, true_and, and_true, str_list, str_size, str_app, str_cut, str_get, e0_2, e0_1, e0_6, e0_7, encPV]
    refine row_str Tryd.underlying9 Tryd.underlying73 Tryd.underlying5 (ho.same (Same.refl _)) (hM _ _ ?_)
    clear hM M
    refine pops_to rfl fun M hM => ?_
    simp only [pop, St.eval, constSlot, upd_at, Nat.reduceEqDiff, if_true, if_false, popCall, List.toList_toArray, List.map_cons, List.map_nil, svs, List.mapM_cons, List.mapM_nil, Option.bind_eq_bind, Option.bind_some, Option.pure_def, List.append_nil, List.cons_append, List.nil_append, str_size, e0_2, e0_1, e0_6, e0_7, encPV]
    refine PFun.use (encRefPath_fun W0 hm x out hnl) fun h8 s8 => hM _ _ ?_
    clear hM M
    refine pops_mv (.inl rfl) rfl (by simp only [St.eval, upd_at, Nat.reduceEqDiff, if_true, if_false, e0_2, e0_1, e0_6, e0_7, encPV] <;> rfl) ?_
    refine pops_to rfl fun M hM => ?_
    simp only [pop, St.eval, constSlot, upd_at, Nat.reduceEqDiff, if_true, if_false, List.getElem?_toArray, List.getElem?_cons_zero, List.getElem?_cons_succ, e0_2, e0_1, e0_6, e0_7, encPV]
    refine hM _ _ ?_
    clear hM M
    refine pops_to rfl fun M hM => ?_
    simp only [pop, St.eval, constSlot, upd_at, Nat.reduceEqDiff, if_true, if_false, List.getElem?_toArray, List.getElem?_cons_zero, List.getElem?_cons_succ, e0_2, e0_1, e0_6, e0_7, encPV]
    refine hM _ _ ?_
    clear hM M
    refine pops_mv (.inr rfl) rfl (by simp only [St.eval, upd_at, Nat.reduceEqDiff, if_true, if_false, e0_2, e0_1, e0_6, e0_7, encPV] <;> rfl) ?_
    refine pops_mv (.inr rfl) rfl (by simp only [St.eval, upd_at, Nat.reduceEqDiff, if_true, if_false, e0_2, e0_1, e0_6, e0_7, encPV] <;> rfl) ?_
    refine pops_done (hR63 _ ?_)
    clear hR63 R63
    try simp only [thenK, scopeK]
    refine hN62 _ ?_
    clear hN62 N62
    refine pwp_then fun N64 hN64 => ?_
    refine pwp_reg fun R65 hR65 => ?_
    refine pops_mv (.inl rfl) rfl (by simp only [St.eval, upd_at, Nat.reduceEqDiff, if_true, if_false, e0_2, e0_1, e0_6, e0_7, encPV] <;> rfl) ?_
    refine pops_to rfl fun M hM => ?_
    simp only [pop, St.eval, constSlot, upd_at, Nat.reduceEqDiff, if_true, if_false, popBin, binK, intK, strK, eqK, Tryd.underlying31, isPtr, eq_self, true_and, and_true, e0_2, e0_1, e0_6, e0_7, encPV]
    refine hM _ _ ?_
    clear hM M
    refine pops_mv (.inl rfl) rfl (by simp only [St.eval, upd_at, Nat.reduceEqDiff, if_true, if_false, e0_2, e0_1, e0_6, e0_7, encPV] <;> rfl) ?_
    apply pops_or0 4 101 105 [102, 103, 104] (by simp only [upd_at, Nat.reduceEqDiff, if_true, if_false, e0_2, e0_1, e0_6, e0_7, encPV] <;> rfl)
    ·skip
     intro g101_0 J66 hJ66
     simp only [List.take_succ_cons, List.take_zero]
     simp only [anyAt_cons, anyAt_nil] at hJ66
     refine pops_mvg (.inl rfl) rfl rfl (by simp only [upd_at, Nat.reduceEqDiff, if_true, if_false, e0_2, e0_1, e0_6, e0_7, encPV, g101_0]) (by simp only [St.eval, upd_at, Nat.reduceEqDiff, if_true, if_false, e0_2, e0_1, e0_6, e0_7, encPV, g101_0] <;> rfl) ?_
     refine pops_mvg (.inl rfl) rfl rfl (by simp only [upd_at, Nat.reduceEqDiff, if_true, if_false, e0_2, e0_1, e0_6, e0_7, encPV, g101_0]) (by simp only [St.eval, upd_at, Nat.reduceEqDiff, if_true, if_false, e0_2, e0_1, e0_6, e0_7, encPV, g101_0] <;> rfl) ?_
     refine pops_do rfl rfl (by simp only [upd_at, Nat.reduceEqDiff, if_true, if_false, e0_2, e0_1, e0_6, e0_7, encPV, g101_0]) fun M hM => ?_
     simp only [pop, St.eval, constSlot, upd_at, Nat.reduceEqDiff, if_true, if_false, popBin, binK, intK, strK, eqK, Tryd.underlying9, isPtr, eq_self, true_and, and_true, str_list, str_size, str_app, str_cut, str_get, e0_2, e0_1, e0_6, e0_7, encPV, g101_0]
     refine hM _ _ ?_
     clear hM M
     refine pops_to rfl fun M hM => ?_
     simp only [pop, St.eval, constSlot, upd_at, Nat.reduceEqDiff, if_true, if_false, popIf, true_implies, false_implies, Bool.true_eq_false, Bool.false_eq_true, reduceCtorEq, true_and, and_true, e0_2, e0_1, e0_6, e0_7, encPV, g101_0]
     refine hM _ _ ?_
     clear hM M
     exact pops_done (hJ66 _ (wk_same (wk_any ((wk_any ((wk_any (Wk.refl _ _))))))))
    ·skip
     intro g101_0 J66 hJ66
     simp only [List.take_succ_cons, List.take_zero]
     simp only [anyAt_cons, anyAt_nil] at hJ66
     refine pops_off (b := true) rfl rfl (by simp only [upd_at, Nat.reduceEqDiff, if_true, if_false, e0_2, e0_1, e0_6, e0_7, encPV, g101_0]) (by decide) ?_
     refine pops_off (b := true) rfl rfl (by simp only [upd_at, Nat.reduceEqDiff, if_true, if_false, e0_2, e0_1, e0_6, e0_7, encPV, g101_0]) (by decide) ?_
     refine pops_off (b := true) rfl rfl (by simp only [upd_at, Nat.reduceEqDiff, if_true, if_false, e0_2, e0_1, e0_6, e0_7, encPV, g101_0]) (by decide) ?_
     refine pops_to rfl fun M hM => ?_
     simp only [pop, St.eval, constSlot, upd_at, Nat.reduceEqDiff, if_true, if_false, popIf, true_implies, false_implies, Bool.true_eq_false, Bool.false_eq_true, reduceCtorEq, true_and, and_true, e0_2, e0_1, e0_6, e0_7, encPV, g101_0]
     refine hM _ _ ?_
     clear hM M
     exact pops_done (hJ66 _ (wk_same (wk_any ((wk_any ((wk_any (Wk.refl _ _))))))))
    simp only [List.drop_succ_cons, List.drop_zero, anyAt_cons, anyAt_nil]
    refine pops_done (hR65 _ ?_)
    clear hR65 R65
    try simp only [thenK, scopeK]
    refine hN64 _ ?_
    clear hN64 N64
    refine pwp_cond (by simp only [St.eval, upd_at, Nat.reduceEqDiff, if_true, if_false, e0_2, e0_1, e0_6, e0_7, encPV] <;> rfl) (fun c105 => ?_) (fun c105 => ?_)
    ·skip
     have hne : encR x out ≠ (s, 0) := by
       intro h
       rw [h] at c105
       simp at c105
     have hdn : decR x s = ([], 6) := by rw [decR_ref hmax, decRef, if_pos hp, hfin]; simp only; rw [if_neg hne]
     refine pwp_then fun N67 hN67 => ?_
     refine pwp_reg fun R68 hR68 => ?_
     refine pops_mv (.inr rfl) rfl (by simp only [St.eval, constSlot] <;> rfl) ?_
     refine pops_mv (.inr rfl) rfl (by simp only [St.eval, constSlot] <;> rfl) ?_
     refine pops_done (hR68 _ ?_)
     clear hR68 R68
     try simp only [thenK, scopeK]
     refine hN67 _ ?_
     clear hN67 N67
     refine pwp_ret ?_
     simp only [thenK, blockK, scopeK, bodyK]
     clear hN61 N61
     exact ⟨_, rfl, by rw [hdn]; exact endKeeps2 (hk0.trans (Same.keeps s8)) rfl⟩
    ·skip
     have heq : encR x out = (s, 0) := by
       simp at c105
       exact Prod.ext c105.2 c105.1
     have hdn : decR x s = (out, 0) := by rw [decR_ref hmax, decRef, if_pos hp, hfin]; simp only; rw [if_pos heq]
     refine pwp_skip ?_
     try simp only [thenK, scopeK]
     refine hN61 _ ?_
     clear hN61 N61
     refine pwp_then fun N69 hN69 => ?_
     refine pwp_reg fun R70 hR70 => ?_
     refine pops_mv (.inl rfl) rfl (by simp only [St.eval, upd_at, Nat.reduceEqDiff, if_true, if_false, e0_2, e0_1, e0_6, e0_7, encPV] <;> rfl) ?_
     refine pops_to rfl fun M hM => ?_
     simp only [pop, St.eval, constSlot, upd_at, Nat.reduceEqDiff, if_true, if_false, eq_self, true_and, and_true, str_list, str_size, str_app, str_cut, str_get, e0_2, e0_1, e0_6, e0_7, encPV]
     refine row_str Tryd.underlying9 Tryd.underlying73 Tryd.underlying5 (ho.same s8) (hM _ _ ?_)
     clear hM M
     refine pops_mv (.inr rfl) rfl (by simp only [St.eval, upd_at, Nat.reduceEqDiff, if_true, if_false, e0_2, e0_1, e0_6, e0_7, encPV] <;> rfl) ?_
     refine pops_mv (.inr rfl) rfl (by simp only [St.eval, constSlot] <;> rfl) ?_
     refine pops_done (hR70 _ ?_)
     clear hR70 R70
     try simp only [thenK, scopeK]
     refine hN69 _ ?_
     clear hN69 N69
     refine pwp_ret ?_
     simp only [thenK, blockK, scopeK, bodyK]
     exact ⟨_, rfl, by rw [hdn]; exact endKeeps2 (hk0.trans (Same.keeps s8)) rfl⟩
end Go.Pw
