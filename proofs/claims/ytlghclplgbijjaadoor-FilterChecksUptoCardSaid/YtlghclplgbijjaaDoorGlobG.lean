/- Own work: part of the proof of the row YtlghclplgbijjaaDoorRowFilterChecksUpto; no condition of its own. -/
import Derived.Test.YtlghclplgbijjaaDoorGlobF
import Derived.Test.YtlghclplgbijjaaDoorGFacts
namespace Go.Pw
open Go Go.RowKit Go.Proofs
set_option maxRecDepth 100000
set_option linter.unusedSimpArgs false
set_option linter.unusedVariables false
theorem nm70 : (Tryd.f70.name == "runtime.NumGoroutine") = false := by kernel_rfl
set_option maxHeartbeats 4000000 in
theorem printParts_bld1 (W0 : World) (h0 : Hp) (id : Nat) (hb0 : hpOk h0) (l : List GPart) (hl : lW l ≤ 1048576) (b : Bool) (hc : chkL b l = 0) (w : Bool) (acc : List UInt8) (hacc : acc.length + 6 * lW l ≤ 1099511627776) (ih : ∀ l' : List GPart, lW l' < lW l → lW l' ≤ 1048576 → ∀ b', chkL b' l' = 0 → ∀ (w' : Bool) (acc' : List UInt8), acc'.length + 6 * lW l' ≤ 1099511627776 → ∀ h, Bld 94 5 h0 h id acc' → PCalls Tryd.prog W0 70 [.one (.ptr id 0 0 0), .one (.ro false 5 (encL l')), .one (pbool w')] h (fun r h' => r = .tup [] ∧ Bld 94 5 h0 h' id (acc' ++ shL w' l'))) (h : Hp) (B : Bld 94 5 h0 h id acc) :
  PCalls Tryd.prog W0 70 [.one (.ptr id 0 0 0), .one (.ro false 5 (encL l)), .one (pbool w)] h (fun r h' => r = .tup [] ∧ Bld 94 5 h0 h' id (acc ++ shL w l)) := by
 have hln := lW_len l
 refine pcalls3 (n := 68) Tryd.func70 rfl nm70 rfl fun hb => ?_
 refine pwp_then fun N1 hN1 => ?_
 refine pwp_reg fun R2 hR2 => ?_
 refine pops_mv (.inr rfl) rfl (by simp only [St.eval, constSlot] <;> rfl) ?_
 refine pops_done (hR2 _ ?_)
 clear hR2 R2
 try simp only [thenK]
 refine hN1 _ ?_
 clear hN1 N1
 refine pwp_then fun N3 hN3 => ?_
 refine pwp_then fun N4 hN4 => ?_
 refine pwp_reg fun R5 hR5 => ?_
 refine pops_mv (.inl rfl) rfl (by simp only [St.eval, upd_at, Nat.reduceEqDiff, if_true, if_false] <;> rfl) ?_
 refine pops_done (hR5 _ ?_)
 clear hR5 R5
 try simp only [thenK]
 refine hN4 _ ?_
 clear hN4 N4
 refine pwp_cond (by simp only [St.eval, upd_at, Nat.reduceEqDiff, if_true, if_false] <;> rfl) (fun c11 => ?_) (fun c11 => ?_)
 ·skip
  have hw : w = true := c11
  refine pwp_reg fun R6 hR6 => ?_
  refine pops_mv (.inl rfl) rfl (by simp only [St.eval, upd_at, Nat.reduceEqDiff, if_true, if_false] <;> rfl) ?_
  refine pops_to rfl fun M hM => ?_
  simp only [pop, St.eval, constSlot, upd_at, Nat.reduceEqDiff, if_true, if_false, popBin, binK, strK, eq_self, str_size, str_app]
  refine ⟨by decide, hM _ _ ?_⟩
  clear hM M
  refine pops_mv (.inr rfl) rfl (by simp only [St.eval, upd_at, Nat.reduceEqDiff, if_true, if_false] <;> rfl) ?_
  refine pops_done (hR6 _ ?_)
  clear hR6 R6
  try simp only [thenK]
  refine hN3 _ ?_
  clear hN3 N3
  refine pwp_then fun N7 hN7 => ?_
  refine pwp_reg fun R8 hR8 => ?_
  refine pops_mv (.inl rfl) rfl (by simp only [St.eval, upd_at, Nat.reduceEqDiff, if_true, if_false] <;> rfl) ?_
  refine pops_to rfl fun M hM => ?_
  simp only [pop, St.eval, upd_at, Nat.reduceEqDiff, if_true, if_false, popCall, List.map_cons, List.map_nil, popBuiltin, popLen, lenOfSlot, Tryd.underlying22, eq_self, encL_len]
  refine hM _ _ ?_
  clear hM M
  refine pops_mv (.inl rfl) rfl (by simp only [St.eval, constSlot] <;> rfl) ?_
  refine pops_done (hR8 _ ?_)
  clear hR8 R8
  try simp only [thenK]
  refine hN7 _ ?_
  clear hN7 N7
  refine pwp_block ?_
  refine pwp_loop (fun k σ => ∃ (i : Nat), (k = l.length - i) ∧ (i ≤ l.length) ∧ (Bld 94 5 h0 σ.hp id (acc ++ shL w (l.take i))) ∧ (σ.env 0 = .sv (.one (.ptr id 0 0 0))) ∧ (σ.env 6 = .sv (.one (pstr (someOf w)))) ∧ (σ.env 14 = .sv (.one (.ro false 5 (encL l)))) ∧ (σ.env 15 = .sv (.one (pint (l.length : Nat)))) ∧ (σ.env 16 = .sv (.one (pint (i : Nat))))) _ ⟨_, .refl _ _, 0, rfl, ?_⟩ ?_
  · exact ⟨Nat.zero_le _, by rw [List.take_zero, shL, List.append_nil]; exact B.keeps (Same.keeps (Same.refl _)), by simp only [upd_at, Nat.reduceEqDiff, if_true, if_false], by first | (simp only [upd_at, Nat.reduceEqDiff, if_true, if_false, hw]; rfl) | (simp only [upd_at, Nat.reduceEqDiff, if_true, if_false, hw, someOf]; rfl), by simp only [upd_at, Nat.reduceEqDiff, if_true, if_false], by first | rfl | (simp only [upd_at, Nat.reduceEqDiff, if_true, if_false]; rfl), by first | rfl | (simp only [upd_at, Nat.reduceEqDiff, if_true, if_false]; rfl)⟩
  ·rintro k ⟨e, hp0⟩ ⟨i, hk0, hx0_0, sl0, e0_0, e0_6, e0_14, e0_15, e0_16⟩
   simp only at sl0 e0_0 e0_6 e0_14 e0_15 e0_16
   have hB := sl0
   refine pwp_hpok fun hok0 => ?_
   simp only at hok0
   refine pwp_then fun N9 hN9 => ?_
   refine pwp_reg fun R10 hR10 => ?_
   refine pops_to rfl fun M hM => ?_
   simp only [pop, St.eval, popBin, binK, intK, eq_self, true_and, e0_15, e0_16]
   refine hM _ _ ?_
   clear hM M
   refine pops_done (hR10 _ ?_)
   clear hR10 R10
   try simp only [thenK]
   refine hN9 _ ?_
   clear hN9 N9
   refine pwp_then fun N11 hN11 => ?_
   refine pwp_cond (by simp only [St.eval, upd_at, if_true] <;> rfl) (fun c17 => ?_) (fun c17 => ?_)
   ·skip
    have hi : i < l.length := by have := of_decide_eq_true c17; omega
    obtain ⟨g, hg⟩ : ∃ g, l[i]? = some g := ⟨_, List.getElem?_eq_getElem hi⟩
    have hget := encL_at hg
    rw [encG_eq] at hget
    have hgw := lW_take hg
    have hge := gW_eq g
    have hrl := rng_len g.ranges
    have hwl := wW_len g.ways
    obtain ⟨hkk, hfm, hcg⟩ := chk_ok hc g (List.mem_of_getElem? hg)
    obtain ⟨hgr, hcw⟩ := chkG_parts hcg
    have hsl := shL_len w (l.take i)
    have hst := shL_take (w := w) hg
    refine pwp_skip ?_
    try simp only [thenK]
    refine hN11 _ ?_
    clear hN11 N11
    refine pwp_then fun N12 hN12 => ?_
    refine pwp_block ?_
    refine pwp_then fun N13 hN13 => ?_
    refine pwp_reg fun R14 hR14 => ?_
    refine pops_to rfl fun M hM => ?_
    simp only [pop, St.eval, upd_at, Nat.reduceEqDiff, if_false, popIndexAddr, Tryd.underlying22, sz64, eq_self, true_and, e0_14, e0_16, hget, Int.toNat_natCast]
    refine ⟨Int.natCast_nonneg _, hM _ _ ?_⟩
    clear hM M
    refine pops_to rfl fun M hM => ?_
    simp only [pop, St.eval, upd_at, Nat.reduceEqDiff, if_true, if_false, List.length_cons, List.length_nil, Nat.zero_add, Nat.reduceAdd, Nat.reduceLeDiff, List.take_succ_cons, List.take_nil, popLoad, loadK, isAggD, Tryd.underlying64, sz64, eq_self, true_and]
    refine hM _ _ ?_
    clear hM M
    refine pops_var (hpOk.same hok0 (Same.refl _)) rfl ze64 (zs := [PV.val (.int .i64 0), PV.val (.string ⟨#[]⟩), PV.val (.bool false), PV.val (.slice none 0 0), PV.val (.slice none 0 0)]) (by kernel_rfl) (by simp) (by simp only [St.eval, slotCells, upd_at, Nat.reduceEqDiff, if_true, if_false] <;> rfl) (by rfl) (by exact Nat.succ_pos _) (by rw [sz64]; rfl) (fun hv15 sv15 => ?_)
    refine pops_done (hR14 _ ?_)
    clear hR14 R14
    try simp only [thenK]
    refine hN13 _ ?_
    clear hN13 N13
    refine pwp_then fun N16 hN16 => ?_
    refine pwp_reg fun R17 hR17 => ?_
    refine pops_to rfl fun M hM => ?_
    simp only [pop, St.eval, upd_at, Nat.reduceEqDiff, if_true, if_false, popFieldAddr, fieldOf, List.drop_zero, List.getElem?_toArray, List.getElem?_cons_zero, Tryd.underlying64, sz3]
    refine ⟨⟨_, rfl⟩, hM _ _ ?_⟩
    clear hM M
    refine pops_to rfl fun M hM => ?_
    simp only [pop, St.eval, upd_at, Nat.reduceEqDiff, if_true, if_false, popLoad, loadK, isAggD, Bool.false_eq_true, Tryd.underlying3, sz3, eq_self]
    refine hM _ _ ?_
    clear hM M
    refine pops_done (hR17 _ ?_)
    clear hR17 R17
    try simp only [thenK]
    refine hN16 _ ?_
    clear hN16 N16
    refine pwp_block ?_
    refine pwp_then fun N18 hN18 => ?_
    refine pwp_reg fun R19 hR19 => ?_
    refine pops_to rfl fun M hM => ?_
    simp only [pop, St.eval, constSlot, upd_at, Nat.reduceEqDiff, if_true, if_false, popBin, binK, intK, eq_self, true_and]
    refine hM _ _ ?_
    clear hM M
    refine pops_mv (.inr rfl) rfl (by simp only [St.eval, upd_at, Nat.reduceEqDiff, if_true, if_false] <;> rfl) ?_
    refine pops_done (hR19 _ ?_)
    clear hR19 R19
    try simp only [thenK]
    refine hN18 _ ?_
    clear hN18 N18
    refine pwp_cond (by simp only [St.eval, upd_at, Nat.reduceEqDiff, if_true, if_false] <;> rfl) (fun c22 => ?_) (fun c22 => ?_)
    ·skip
     have hk : g.kind = 1 := by simpa using c22
     have hsh : shG w g = escT (someOf w).contains g.text := by rw [shG_eq, if_pos hk]; exact (esc_congr (someOf_has w) _).symm
     refine pwp_reg fun R20 hR20 => ?_
     refine pops_mv (.inl rfl) rfl (by simp only [St.eval, upd_at, Nat.reduceEqDiff, if_false, e0_0] <;> rfl) ?_
     refine pops_to rfl fun M hM => ?_
     simp only [pop, St.eval, upd_at, Nat.reduceEqDiff, if_true, if_false, popFieldAddr, fieldOf, List.drop_succ_cons, List.drop_zero, List.getElem?_toArray, List.getElem?_cons_zero, List.getElem?_cons_succ, Tryd.underlying64, sz9]
     refine ⟨⟨_, rfl⟩, hM _ _ ?_⟩
     clear hM M
     refine pops_to rfl fun M hM => ?_
     simp only [pop, St.eval, upd_at, Nat.reduceEqDiff, if_true, if_false, popLoad, loadK, isAggD, Bool.false_eq_true, Tryd.underlying9, sz9, eq_self]
     refine hM _ _ ?_
     clear hM M
     refine pops_mv (.inl rfl) rfl (by simp only [St.eval, upd_at, Nat.reduceEqDiff, if_false, e0_6] <;> rfl) ?_
     refine pops_to rfl fun M hM => ?_
     simp only [pop, St.eval, constSlot, upd_at, Nat.reduceEqDiff, if_true, if_false, popCall, List.map_nil, svs, List.mapM_cons, List.mapM_nil, Option.bind_eq_bind, Option.bind_some, Option.pure_def, List.append_nil]
     first
       | refine (escape_bld W0 h0 id _ g.text (someOf w) hb0 (by first | omega | (simp only [List.length_append]; omega)) _ (hB.keeps (Same.keeps sv15))).mono ?_
     rintro _ h9 ⟨rfl, hB9⟩
     refine hM _ _ ?_
     clear hM M
     refine pops_done (hR20 _ ?_)
     clear hR20 R20
     try simp only [blockK, thenK]
     try simp only [blockK, thenK, scopeK]
     try simp only [thenK, scopeK]
     refine hN12 _ ?_
     clear hN12 N12
     refine pwp_reg fun R21 hR21 => ?_
     refine pops_to rfl fun M hM => ?_
     simp only [pop, St.eval, constSlot, upd_at, Nat.reduceEqDiff, if_false, popBin, binK, intK, eq_self, true_and, e0_16]
     refine hM _ _ ?_
     clear hM M
     refine pops_mv (.inl rfl) rfl (by simp only [St.eval, upd_at, Nat.reduceEqDiff, if_true, if_false] <;> rfl) ?_
     refine pops_done (hR21 _ ?_)
     clear hR21 R21
     try simp only [thenK]
     exact ⟨_, by omega, _, .refl _ _, i + 1, rfl, by omega, by rw [hst, hsh]; have e9 := hB9.keeps (Same.keeps (Same.refl _)); simpa [List.append_assoc] using e9, by simp only [upd_at, Nat.reduceEqDiff, if_false, e0_0], by simp only [upd_at, Nat.reduceEqDiff, if_false, e0_6], by simp only [upd_at, Nat.reduceEqDiff, if_false, e0_14], by simp only [upd_at, Nat.reduceEqDiff, if_false, e0_15], by simp only [upd_at, Nat.reduceEqDiff, if_true, if_false, e0_16]; rw [wrap_succ (by omega)]⟩
    ·skip
     have hk1 : ¬ g.kind = 1 := by simpa using c22
     refine pwp_then fun N22 hN22 => ?_
     refine pwp_reg fun R23 hR23 => ?_
     refine pops_to rfl fun M hM => ?_
     simp only [pop, St.eval, constSlot, upd_at, Nat.reduceEqDiff, if_true, if_false, popBin, binK, intK, eq_self, true_and]
     refine hM _ _ ?_
     clear hM M
     refine pops_mv (.inr rfl) rfl (by simp only [St.eval, upd_at, Nat.reduceEqDiff, if_true, if_false] <;> rfl) ?_
     refine pops_done (hR23 _ ?_)
     clear hR23 R23
     try simp only [thenK]
     refine hN22 _ ?_
     clear hN22 N22
     refine pwp_cond (by simp only [St.eval, upd_at, Nat.reduceEqDiff, if_true, if_false] <;> rfl) (fun c29 => ?_) (fun c29 => ?_)
     ·skip
      have hk : g.kind = 2 := by simpa using c29
      have hsh : shG w g = [63] := by rw [shG_eq]; simp [hk]
      refine pwp_reg fun R24 hR24 => ?_
      refine pops_mv (.inl rfl) rfl (by simp only [St.eval, upd_at, Nat.reduceEqDiff, if_false, e0_0] <;> rfl) ?_
      refine pops_to rfl fun M hM => ?_
      simp only [pop, St.eval, constSlot, upd_at, Nat.reduceEqDiff, if_true, if_false, popCall, List.map_nil, svs, List.mapM_cons, List.mapM_nil, Option.bind_eq_bind, Option.bind_some, Option.pure_def, List.append_nil]
      first
        | refine (writeByte_bld W0 h0 id _ 63 hb0 (by first | omega | (simp only [List.length_append]; omega)) _ (hB.keeps (Same.keeps sv15))).mono ?_
      rintro _ h9 ⟨rfl, hB9⟩
      refine hM _ _ ?_
      clear hM M
      refine pops_done (hR24 _ ?_)
      clear hR24 R24
      try simp only [blockK, thenK]
      try simp only [blockK, thenK, scopeK]
      try simp only [thenK, scopeK]
      refine hN12 _ ?_
      clear hN12 N12
      refine pwp_reg fun R25 hR25 => ?_
      refine pops_to rfl fun M hM => ?_
      simp only [pop, St.eval, constSlot, upd_at, Nat.reduceEqDiff, if_false, popBin, binK, intK, eq_self, true_and, e0_16]
      refine hM _ _ ?_
      clear hM M
      refine pops_mv (.inl rfl) rfl (by simp only [St.eval, upd_at, Nat.reduceEqDiff, if_true, if_false] <;> rfl) ?_
      refine pops_done (hR25 _ ?_)
      clear hR25 R25
      try simp only [thenK]
      exact ⟨_, by omega, _, .refl _ _, i + 1, rfl, by omega, by rw [hst, hsh]; have e9 := hB9.keeps (Same.keeps (Same.refl _)); simpa [List.append_assoc] using e9, by simp only [upd_at, Nat.reduceEqDiff, if_false, e0_0], by simp only [upd_at, Nat.reduceEqDiff, if_false, e0_6], by simp only [upd_at, Nat.reduceEqDiff, if_false, e0_14], by simp only [upd_at, Nat.reduceEqDiff, if_false, e0_15], by simp only [upd_at, Nat.reduceEqDiff, if_true, if_false, e0_16]; rw [wrap_succ (by omega)]⟩
     ·skip
      have hk2 : ¬ g.kind = 2 := by simpa using c29
      refine pwp_then fun N26 hN26 => ?_
      refine pwp_reg fun R27 hR27 => ?_
      refine pops_to rfl fun M hM => ?_
      simp only [pop, St.eval, constSlot, upd_at, Nat.reduceEqDiff, if_true, if_false, popBin, binK, intK, eq_self, true_and]
      refine hM _ _ ?_
      clear hM M
      refine pops_mv (.inr rfl) rfl (by simp only [St.eval, upd_at, Nat.reduceEqDiff, if_true, if_false] <;> rfl) ?_
      refine pops_done (hR27 _ ?_)
      clear hR27 R27
      try simp only [thenK]
      refine hN26 _ ?_
      clear hN26 N26
      refine pwp_cond (by simp only [St.eval, upd_at, Nat.reduceEqDiff, if_true, if_false] <;> rfl) (fun c33 => ?_) (fun c33 => ?_)
      ·skip
       have hk : g.kind = 3 := by simpa using c33
       have hsh : shG w g = [42] := by rw [shG_eq]; simp [hk]
       refine pwp_reg fun R28 hR28 => ?_
       refine pops_mv (.inl rfl) rfl (by simp only [St.eval, upd_at, Nat.reduceEqDiff, if_false, e0_0] <;> rfl) ?_
       refine pops_to rfl fun M hM => ?_
       simp only [pop, St.eval, constSlot, upd_at, Nat.reduceEqDiff, if_true, if_false, popCall, List.map_nil, svs, List.mapM_cons, List.mapM_nil, Option.bind_eq_bind, Option.bind_some, Option.pure_def, List.append_nil]
       first
         | refine (writeByte_bld W0 h0 id _ 42 hb0 (by first | omega | (simp only [List.length_append]; omega)) _ (hB.keeps (Same.keeps sv15))).mono ?_
       rintro _ h9 ⟨rfl, hB9⟩
       refine hM _ _ ?_
       clear hM M
       refine pops_done (hR28 _ ?_)
       clear hR28 R28
       try simp only [blockK, thenK]
       try simp only [blockK, thenK, scopeK]
       try simp only [thenK, scopeK]
       refine hN12 _ ?_
       clear hN12 N12
       refine pwp_reg fun R29 hR29 => ?_
       refine pops_to rfl fun M hM => ?_
       simp only [pop, St.eval, constSlot, upd_at, Nat.reduceEqDiff, if_false, popBin, binK, intK, eq_self, true_and, e0_16]
       refine hM _ _ ?_
       clear hM M
       refine pops_mv (.inl rfl) rfl (by simp only [St.eval, upd_at, Nat.reduceEqDiff, if_true, if_false] <;> rfl) ?_
       refine pops_done (hR29 _ ?_)
       clear hR29 R29
       try simp only [thenK]
       exact ⟨_, by omega, _, .refl _ _, i + 1, rfl, by omega, by rw [hst, hsh]; have e9 := hB9.keeps (Same.keeps (Same.refl _)); simpa [List.append_assoc] using e9, by simp only [upd_at, Nat.reduceEqDiff, if_false, e0_0], by simp only [upd_at, Nat.reduceEqDiff, if_false, e0_6], by simp only [upd_at, Nat.reduceEqDiff, if_false, e0_14], by simp only [upd_at, Nat.reduceEqDiff, if_false, e0_15], by simp only [upd_at, Nat.reduceEqDiff, if_true, if_false, e0_16]; rw [wrap_succ (by omega)]⟩
      ·skip
       have hk3 : ¬ g.kind = 3 := by simpa using c33
       refine pwp_then fun N30 hN30 => ?_
       refine pwp_reg fun R31 hR31 => ?_
       refine pops_to rfl fun M hM => ?_
       simp only [pop, St.eval, constSlot, upd_at, Nat.reduceEqDiff, if_true, if_false, popBin, binK, intK, eq_self, true_and]
       refine hM _ _ ?_
       clear hM M
       refine pops_mv (.inr rfl) rfl (by simp only [St.eval, upd_at, Nat.reduceEqDiff, if_true, if_false] <;> rfl) ?_
       refine pops_done (hR31 _ ?_)
       clear hR31 R31
       try simp only [thenK]
       refine hN30 _ ?_
       clear hN30 N30
       refine pwp_cond (by simp only [St.eval, upd_at, Nat.reduceEqDiff, if_true, if_false] <;> rfl) (fun c37 => ?_) (fun c37 => ?_)
       ·skip
        have hk : g.kind = 4 := by simpa using c37
        have hsh : shG w g = [42, 42] := by rw [shG_eq]; simp [hk]
        refine pwp_reg fun R32 hR32 => ?_
        refine pops_mv (.inl rfl) rfl (by simp only [St.eval, upd_at, Nat.reduceEqDiff, if_false, e0_0] <;> rfl) ?_
        refine pops_to rfl fun M hM => ?_
        simp only [pop, St.eval, constSlot, upd_at, Nat.reduceEqDiff, if_true, if_false, popCall, List.map_nil, svs, List.mapM_cons, List.mapM_nil, Option.bind_eq_bind, Option.bind_some, Option.pure_def, List.append_nil]
        first
          | refine (writeString_bld W0 h0 id _ [42, 42] hb0 (by first | omega | (simp only [List.length_append, List.length_cons, List.length_nil]; omega)) _ (hB.keeps (Same.keeps sv15))).mono ?_
        rintro _ h9 ⟨rfl, hB9⟩
        refine hM _ _ ?_
        clear hM M
        refine pops_done (hR32 _ ?_)
        clear hR32 R32
        try simp only [blockK, thenK]
        try simp only [blockK, thenK, scopeK]
        try simp only [thenK, scopeK]
        refine hN12 _ ?_
        clear hN12 N12
        refine pwp_reg fun R33 hR33 => ?_
        refine pops_to rfl fun M hM => ?_
        simp only [pop, St.eval, constSlot, upd_at, Nat.reduceEqDiff, if_false, popBin, binK, intK, eq_self, true_and, e0_16]
        refine hM _ _ ?_
        clear hM M
        refine pops_mv (.inl rfl) rfl (by simp only [St.eval, upd_at, Nat.reduceEqDiff, if_true, if_false] <;> rfl) ?_
        refine pops_done (hR33 _ ?_)
        clear hR33 R33
        try simp only [thenK]
        exact ⟨_, by omega, _, .refl _ _, i + 1, rfl, by omega, by rw [hst, hsh]; have e9 := hB9.keeps (Same.keeps (Same.refl _)); simpa [List.append_assoc] using e9, by simp only [upd_at, Nat.reduceEqDiff, if_false, e0_0], by simp only [upd_at, Nat.reduceEqDiff, if_false, e0_6], by simp only [upd_at, Nat.reduceEqDiff, if_false, e0_14], by simp only [upd_at, Nat.reduceEqDiff, if_false, e0_15], by simp only [upd_at, Nat.reduceEqDiff, if_true, if_false, e0_16]; rw [wrap_succ (by omega)]⟩
       ·skip
        have hk4 : ¬ g.kind = 4 := by simpa using c37
        refine pwp_then fun N34 hN34 => ?_
        refine pwp_reg fun R35 hR35 => ?_
        refine pops_to rfl fun M hM => ?_
        simp only [pop, St.eval, constSlot, upd_at, Nat.reduceEqDiff, if_true, if_false, popBin, binK, intK, eq_self, true_and]
        refine hM _ _ ?_
        clear hM M
        refine pops_mv (.inr rfl) rfl (by simp only [St.eval, upd_at, Nat.reduceEqDiff, if_true, if_false] <;> rfl) ?_
        refine pops_done (hR35 _ ?_)
        clear hR35 R35
        try simp only [thenK]
        refine hN34 _ ?_
        clear hN34 N34
        refine pwp_cond (by simp only [St.eval, upd_at, Nat.reduceEqDiff, if_true, if_false] <;> rfl) (fun c41 => ?_) (fun c41 => ?_)
        ·skip
         have hk : g.kind = 5 := by simpa using c41
         have hsh : shG w g = showS g.neg g.ranges := by rw [shG_eq]; simp [hk]
         refine pwp_reg fun R36 hR36 => ?_
         refine pops_mv (.inl rfl) rfl (by simp only [St.eval, upd_at, Nat.reduceEqDiff, if_false, e0_0] <;> rfl) ?_
         refine pops_to rfl fun M hM => ?_
         simp only [pop, St.eval, upd_at, Nat.reduceEqDiff, if_true, if_false, List.length_cons, List.length_nil, Nat.zero_add, Nat.reduceAdd, Nat.reduceLeDiff, List.take_succ_cons, List.take_nil, popLoad, loadK, isAggD, Tryd.underlying64, sz64, eq_self, true_and]
         refine hM _ _ ?_
         clear hM M
         refine pops_to rfl fun M hM => ?_
         simp only [pop, St.eval, constSlot, upd_at, Nat.reduceEqDiff, if_true, if_false, popCall, List.map_nil, svs, List.mapM_cons, List.mapM_nil, Option.bind_eq_bind, Option.bind_some, Option.pure_def, List.append_nil]
         first
           | refine (printSet_bld W0 h0 id _ g hgr hb0 (by omega) (by first | omega | (simp only [List.length_append]; omega)) _ (hB.keeps (Same.keeps sv15))).mono ?_
         rintro _ h9 ⟨rfl, hB9⟩
         refine hM _ _ ?_
         clear hM M
         refine pops_done (hR36 _ ?_)
         clear hR36 R36
         try simp only [blockK, thenK]
         try simp only [blockK, thenK, scopeK]
         try simp only [thenK, scopeK]
         refine hN12 _ ?_
         clear hN12 N12
         refine pwp_reg fun R37 hR37 => ?_
         refine pops_to rfl fun M hM => ?_
         simp only [pop, St.eval, constSlot, upd_at, Nat.reduceEqDiff, if_false, popBin, binK, intK, eq_self, true_and, e0_16]
         refine hM _ _ ?_
         clear hM M
         refine pops_mv (.inl rfl) rfl (by simp only [St.eval, upd_at, Nat.reduceEqDiff, if_true, if_false] <;> rfl) ?_
         refine pops_done (hR37 _ ?_)
         clear hR37 R37
         try simp only [thenK]
         exact ⟨_, by omega, _, .refl _ _, i + 1, rfl, by omega, by rw [hst, hsh]; have e9 := hB9.keeps (Same.keeps (Same.refl _)); simpa [List.append_assoc] using e9, by simp only [upd_at, Nat.reduceEqDiff, if_false, e0_0], by simp only [upd_at, Nat.reduceEqDiff, if_false, e0_6], by simp only [upd_at, Nat.reduceEqDiff, if_false, e0_14], by simp only [upd_at, Nat.reduceEqDiff, if_false, e0_15], by simp only [upd_at, Nat.reduceEqDiff, if_true, if_false, e0_16]; rw [wrap_succ (by omega)]⟩
        ·skip
         have hk5 : ¬ g.kind = 5 := by simpa using c41
         refine pwp_then fun N38 hN38 => ?_
         refine pwp_reg fun R39 hR39 => ?_
         refine pops_to rfl fun M hM => ?_
         simp only [pop, St.eval, constSlot, upd_at, Nat.reduceEqDiff, if_true, if_false, popBin, binK, intK, eq_self, true_and]
         refine hM _ _ ?_
         clear hM M
         refine pops_mv (.inr rfl) rfl (by simp only [St.eval, upd_at, Nat.reduceEqDiff, if_true, if_false] <;> rfl) ?_
         refine pops_done (hR39 _ ?_)
         clear hR39 R39
         try simp only [thenK]
         refine hN38 _ ?_
         clear hN38 N38
         refine pwp_cond (by simp only [St.eval, upd_at, Nat.reduceEqDiff, if_true, if_false] <;> rfl) (fun c46 => ?_) (fun c46 => ?_)
         ·skip
          have hk : g.kind = 6 := by simpa using c46
          have hsh : shG w g = shW true g.ways ++ [125] := by rw [shG_eq]; simp [hk]
          refine pwp_then fun N40 hN40 => ?_
          refine pwp_then fun N41 hN41 => ?_
          refine pwp_reg fun R42 hR42 => ?_
          refine pops_to rfl fun M hM => ?_
          simp only [pop, St.eval, upd_at, Nat.reduceEqDiff, if_true, if_false, popFieldAddr, fieldOf, List.drop_succ_cons, List.drop_zero, List.getElem?_toArray, List.getElem?_cons_zero, List.getElem?_cons_succ, Tryd.underlying64, sz62]
          refine ⟨⟨_, rfl⟩, hM _ _ ?_⟩
          clear hM M
          refine pops_to rfl fun M hM => ?_
          simp only [pop, St.eval, upd_at, Nat.reduceEqDiff, if_true, if_false, popLoad, loadK, isAggD, Bool.false_eq_true, Tryd.underlying62, sz62, eq_self]
          refine hM _ _ ?_
          clear hM M
          refine pops_to rfl fun M hM => ?_
          simp only [pop, St.eval, upd_at, Nat.reduceEqDiff, if_true, if_false, popCall, List.map_cons, List.map_nil, popBuiltin, popLen, lenOfSlot, Tryd.underlying62, eq_self, encW_len]
          refine hM _ _ ?_
          clear hM M
          refine pops_mv (.inl rfl) rfl (by simp only [St.eval, constSlot] <;> rfl) ?_
          refine pops_done (hR42 _ ?_)
          clear hR42 R42
          try simp only [thenK]
          refine hN41 _ ?_
          clear hN41 N41
          refine pwp_block ?_
          refine pwp_loop (fun k σ => ∃ (j : Nat), (k = g.ways.length - j) ∧ (j ≤ g.ways.length) ∧ (Bld 94 5 h0 σ.hp id (acc ++ shL w (l.take i) ++ shW true (g.ways.take j))) ∧ (σ.env 0 = .sv (.one (.ptr id 0 0 0))) ∧ (σ.env 6 = .sv (.one (pstr (someOf w)))) ∧ (σ.env 14 = .sv (.one (.ro false 5 (encL l)))) ∧ (σ.env 15 = .sv (.one (pint (l.length : Nat)))) ∧ (σ.env 16 = .sv (.one (pint (i : Nat)))) ∧ (σ.env 8 = .sv (.one (.rop [pint g.kind, pstr g.text, pbool g.neg, .ro false 2 (rngPV g.ranges), .ro false 1 (encW g.ways)]))) ∧ (σ.env 49 = .sv (.one (.ro false 1 (encW g.ways)))) ∧ (σ.env 50 = .sv (.one (pint (g.ways.length : Nat)))) ∧ (σ.env 51 = .sv (.one (pint (j : Nat))))) _ ⟨_, .refl _ _, 0, rfl, ?_⟩ ?_
          · exact ⟨Nat.zero_le _, by rw [List.take_zero, shW, List.append_nil]; exact hB.keeps (Same.keeps sv15), by simp only [upd_at, Nat.reduceEqDiff, if_false, e0_0], by simp only [upd_at, Nat.reduceEqDiff, if_false, e0_6], by simp only [upd_at, Nat.reduceEqDiff, if_false, e0_14], by simp only [upd_at, Nat.reduceEqDiff, if_false, e0_15], by simp only [upd_at, Nat.reduceEqDiff, if_false, e0_16], by simp only [upd_at, Nat.reduceEqDiff, if_true, if_false], by simp only [upd_at, Nat.reduceEqDiff, if_true, if_false], by first | rfl | (simp only [upd_at, Nat.reduceEqDiff, if_true, if_false]; rfl), by first | rfl | (simp only [upd_at, Nat.reduceEqDiff, if_true, if_false]; rfl)⟩
          ·rintro k ⟨e, hp1⟩ ⟨j, hk1, hx1_0, sl1, e1_0, e1_6, e1_14, e1_15, e1_16, e1_8, e1_49, e1_50, e1_51⟩
           simp only at sl1 e1_0 e1_6 e1_14 e1_15 e1_16 e1_8 e1_49 e1_50 e1_51
           have hBw := sl1
           refine pwp_hpok fun hok1 => ?_
           simp only at hok1
           refine pwp_then fun N43 hN43 => ?_
           refine pwp_reg fun R44 hR44 => ?_
           refine pops_to rfl fun M hM => ?_
           simp only [pop, St.eval, popBin, binK, intK, eq_self, true_and, e1_50, e1_51]
           refine hM _ _ ?_
           clear hM M
           refine pops_done (hR44 _ ?_)
           clear hR44 R44
           try simp only [thenK]
           refine hN43 _ ?_
           clear hN43 N43
           refine pwp_then fun N45 hN45 => ?_
           refine pwp_cond (by simp only [St.eval, upd_at, if_true] <;> rfl) (fun c52 => ?_) (fun c52 => ?_)
           ·skip
            have hj : j < g.ways.length := by have := of_decide_eq_true c52; omega
            obtain ⟨v, hv⟩ : ∃ v, g.ways[j]? = some v := ⟨_, List.getElem?_eq_getElem hj⟩
            have hgetw := encW_at hv
            have hlt := way_lt hg hv
            have hv0 := chkW_ok hcw v (List.mem_of_getElem? hv)
            obtain ⟨hbr, hbr0⟩ := brace_at j
            have hwt := wW_take hv
            have hswl := shW_len true (g.ways.take j)
            have hws := shW_take hv
            refine pwp_skip ?_
            try simp only [thenK]
            refine hN45 _ ?_
            clear hN45 N45
            refine pwp_then fun N46 hN46 => ?_
            refine pwp_block ?_
            refine pwp_then fun N47 hN47 => ?_
            refine pwp_reg fun R48 hR48 => ?_
            refine pops_mv (.inl rfl) rfl (by simp only [St.eval, upd_at, Nat.reduceEqDiff, if_false, e1_51] <;> rfl) ?_
            refine pops_to rfl fun M hM => ?_
            simp only [pop, St.eval, upd_at, Nat.reduceEqDiff, if_false, popIndexAddr, Tryd.underlying62, sz22, eq_self, true_and, e1_49, e1_51, hgetw, Int.toNat_natCast]
            refine ⟨Int.natCast_nonneg _, hM _ _ ?_⟩
            clear hM M
            refine pops_to rfl fun M hM => ?_
            simp only [pop, St.eval, upd_at, Nat.reduceEqDiff, if_true, if_false, popLoad, loadK, isAggD, Bool.false_eq_true, Tryd.underlying22, sz22, eq_self]
            refine hM _ _ ?_
            clear hM M
            refine pops_mv (.inr rfl) rfl (by simp only [St.eval, upd_at, Nat.reduceEqDiff, if_true, if_false] <;> rfl) ?_
            refine pops_mv (.inr rfl) rfl (by simp only [St.eval, upd_at, Nat.reduceEqDiff, if_true, if_false] <;> rfl) ?_
            refine pops_done (hR48 _ ?_)
            clear hR48 R48
            try simp only [thenK]
            refine hN47 _ ?_
            clear hN47 N47
            refine pwp_then fun N49 hN49 => ?_
            refine pwp_reg fun R50 hR50 => ?_
            refine pops_mv (.inl rfl) rfl (by simp only [St.eval, upd_at, Nat.reduceEqDiff, if_false, e1_0] <;> rfl) ?_
            refine pops_mv (.inl rfl) rfl (by simp only [St.eval, upd_at, Nat.reduceEqDiff, if_true, if_false] <;> rfl) ?_
            refine pops_to rfl fun M hM => ?_
            simp only [pop, St.eval, constSlot, upd_at, Nat.reduceEqDiff, if_true, if_false, popCall, List.map_cons, List.map_nil, popBuiltin, eq_self]
            refine hM _ _ ?_
            clear hM M
            refine pops_to rfl fun M hM => ?_
            simp only [pop, St.eval, constSlot, upd_at, Nat.reduceEqDiff, if_true, if_false, popIndex, Tryd.underlying9, eq_self, str_get, hbr]
            refine ⟨hbr0, hM _ _ ?_⟩
            clear hM M
            refine pops_to rfl fun M hM => ?_
            simp only [pop, St.eval, constSlot, upd_at, Nat.reduceEqDiff, if_true, if_false, popCall, List.map_nil, svs, List.mapM_cons, List.mapM_nil, Option.bind_eq_bind, Option.bind_some, Option.pure_def, List.append_nil]
            first
              | refine (writeByte_bld W0 h0 id _ (if j = 0 then 123 else 44) hb0 (by first | omega | (simp only [List.length_append]; omega)) _ (hBw.keeps (Same.keeps (Same.refl _)))).mono ?_
            rintro _ h7 ⟨rfl, hB7⟩
            refine hM _ _ ?_
            clear hM M
            refine pops_done (hR50 _ ?_)
            clear hR50 R50
            try simp only [thenK]
            refine hN49 _ ?_
            clear hN49 N49
            refine pwp_reg fun R51 hR51 => ?_
            refine pops_mv (.inl rfl) rfl (by simp only [St.eval, upd_at, Nat.reduceEqDiff, if_false, e1_0] <;> rfl) ?_
            refine pops_mv (.inl rfl) rfl (by simp only [St.eval, upd_at, Nat.reduceEqDiff, if_true, if_false] <;> rfl) ?_
            refine pops_to rfl fun M hM => ?_
            simp only [pop, St.eval, constSlot, upd_at, Nat.reduceEqDiff, if_true, if_false, popCall, List.map_nil, svs, List.mapM_cons, List.mapM_nil, Option.bind_eq_bind, Option.bind_some, Option.pure_def, List.append_nil]
            first
              | refine (ih v hlt (by omega) false hv0 true _ (by first | omega | (simp only [List.length_append, List.length_cons, List.length_nil]; omega)) _ (hB7.keeps (Same.keeps (Same.refl _)))).mono ?_
            rintro _ h8 ⟨rfl, hB8⟩
            refine hM _ _ ?_
            clear hM M
            refine pops_done (hR51 _ ?_)
            clear hR51 R51
            try simp only [blockK, thenK]
            try simp only [thenK, scopeK]
            refine hN46 _ ?_
            clear hN46 N46
            refine pwp_reg fun R52 hR52 => ?_
            refine pops_to rfl fun M hM => ?_
            simp only [pop, St.eval, constSlot, upd_at, Nat.reduceEqDiff, if_false, popBin, binK, intK, eq_self, true_and, e1_51]
            refine hM _ _ ?_
            clear hM M
            refine pops_mv (.inl rfl) rfl (by simp only [St.eval, upd_at, Nat.reduceEqDiff, if_true, if_false] <;> rfl) ?_
            refine pops_done (hR52 _ ?_)
            clear hR52 R52
            try simp only [thenK]
            exact ⟨_, by omega, _, .refl _ _, j + 1, rfl, by omega, by rw [hws]; have e9 := hB8.keeps (Same.keeps (Same.refl _)); simpa [List.append_assoc] using e9, by simp only [upd_at, Nat.reduceEqDiff, if_false, e1_0], by simp only [upd_at, Nat.reduceEqDiff, if_false, e1_6], by simp only [upd_at, Nat.reduceEqDiff, if_false, e1_14], by simp only [upd_at, Nat.reduceEqDiff, if_false, e1_15], by simp only [upd_at, Nat.reduceEqDiff, if_false, e1_16], by simp only [upd_at, Nat.reduceEqDiff, if_false, e1_8], by simp only [upd_at, Nat.reduceEqDiff, if_false, e1_49], by simp only [upd_at, Nat.reduceEqDiff, if_false, e1_50], by simp only [upd_at, Nat.reduceEqDiff, if_true, if_false, e1_51]; rw [wrap_succ (by omega)]⟩
           ·skip
            obtain rfl : j = g.ways.length := by have := of_decide_eq_false c52; omega
            rw [List.take_length] at hBw
            have hswl := shW_len true g.ways
            refine pwp_exit ?_
            try simp only [thenK, blockK, if_true, Nat.reduceEqDiff, if_false]
            clear hN45 N45
            try simp only [blockK, scopeK, if_true, Nat.reduceEqDiff, if_false, thenK]
            try simp only [thenK, scopeK]
            refine hN40 _ ?_
            clear hN40 N40
            refine pwp_reg fun R53 hR53 => ?_
            refine pops_mv (.inl rfl) rfl (by simp only [St.eval, upd_at, Nat.reduceEqDiff, if_false, e1_0] <;> rfl) ?_
            refine pops_to rfl fun M hM => ?_
            simp only [pop, St.eval, constSlot, upd_at, Nat.reduceEqDiff, if_true, if_false, popCall, List.map_nil, svs, List.mapM_cons, List.mapM_nil, Option.bind_eq_bind, Option.bind_some, Option.pure_def, List.append_nil]
            first
              | refine (writeByte_bld W0 h0 id _ 125 hb0 (by first | omega | (simp only [List.length_append]; omega)) _ (hBw.keeps (Same.keeps (Same.refl _)))).mono ?_
            rintro _ h9 ⟨rfl, hB9⟩
            refine hM _ _ ?_
            clear hM M
            refine pops_done (hR53 _ ?_)
            clear hR53 R53
            try simp only [blockK, thenK]
            try simp only [blockK, thenK, scopeK]
            try simp only [thenK, scopeK]
            refine hN12 _ ?_
            clear hN12 N12
            refine pwp_reg fun R54 hR54 => ?_
            refine pops_to rfl fun M hM => ?_
            simp only [pop, St.eval, constSlot, upd_at, Nat.reduceEqDiff, if_false, popBin, binK, intK, eq_self, true_and, e1_16]
            refine hM _ _ ?_
            clear hM M
            refine pops_mv (.inl rfl) rfl (by simp only [St.eval, upd_at, Nat.reduceEqDiff, if_true, if_false] <;> rfl) ?_
            refine pops_done (hR54 _ ?_)
            clear hR54 R54
            try simp only [thenK]
            exact ⟨_, by omega, _, .refl _ _, i + 1, rfl, by omega, by rw [hst, hsh]; have e9 := hB9.keeps (Same.keeps (Same.refl _)); simpa [List.append_assoc] using e9, by simp only [upd_at, Nat.reduceEqDiff, if_false, e1_0], by simp only [upd_at, Nat.reduceEqDiff, if_false, e1_6], by simp only [upd_at, Nat.reduceEqDiff, if_false, e1_14], by simp only [upd_at, Nat.reduceEqDiff, if_false, e1_15], by simp only [upd_at, Nat.reduceEqDiff, if_true, if_false]; rw [wrap_succ (by omega)]⟩
         ·skip
          have hk6 : ¬ g.kind = 6 := by simpa using c46
          omega
   ·skip
    obtain rfl : i = l.length := by have := of_decide_eq_false c17; omega
    rw [List.take_length] at hB
    refine pwp_exit ?_
    try simp only [thenK, blockK, if_true]
    clear hN11 N11
    try simp only [blockK, scopeK, if_true, Nat.reduceEqDiff, if_false, thenK]
    simp only [bodyK]
    exact ⟨_, rfl, _, _, .refl _ _ _, rfl, hB⟩
 ·skip
  have hw : w = false := c11
  refine pwp_skip ?_
  try simp only [thenK]
  refine hN3 _ ?_
  clear hN3 N3
  refine pwp_then fun N55 hN55 => ?_
  refine pwp_reg fun R56 hR56 => ?_
  refine pops_mv (.inl rfl) rfl (by simp only [St.eval, upd_at, Nat.reduceEqDiff, if_true, if_false] <;> rfl) ?_
  refine pops_to rfl fun M hM => ?_
  simp only [pop, St.eval, upd_at, Nat.reduceEqDiff, if_true, if_false, popCall, List.map_cons, List.map_nil, popBuiltin, popLen, lenOfSlot, Tryd.underlying22, eq_self, encL_len]
  refine hM _ _ ?_
  clear hM M
  refine pops_mv (.inl rfl) rfl (by simp only [St.eval, constSlot] <;> rfl) ?_
  refine pops_done (hR56 _ ?_)
  clear hR56 R56
  try simp only [thenK]
  refine hN55 _ ?_
  clear hN55 N55
  refine pwp_block ?_
  refine pwp_loop (fun k σ => ∃ (i : Nat), (k = l.length - i) ∧ (i ≤ l.length) ∧ (Bld 94 5 h0 σ.hp id (acc ++ shL w (l.take i))) ∧ (σ.env 0 = .sv (.one (.ptr id 0 0 0))) ∧ (σ.env 6 = .sv (.one (pstr (someOf w)))) ∧ (σ.env 14 = .sv (.one (.ro false 5 (encL l)))) ∧ (σ.env 15 = .sv (.one (pint (l.length : Nat)))) ∧ (σ.env 16 = .sv (.one (pint (i : Nat))))) _ ⟨_, .refl _ _, 0, rfl, ?_⟩ ?_
  · exact ⟨Nat.zero_le _, by rw [List.take_zero, shL, List.append_nil]; exact B.keeps (Same.keeps (Same.refl _)), by simp only [upd_at, Nat.reduceEqDiff, if_true, if_false], by first | (simp only [upd_at, Nat.reduceEqDiff, if_true, if_false, hw]; rfl) | (simp only [upd_at, Nat.reduceEqDiff, if_true, if_false, hw, someOf]; rfl), by simp only [upd_at, Nat.reduceEqDiff, if_true, if_false], by first | rfl | (simp only [upd_at, Nat.reduceEqDiff, if_true, if_false]; rfl), by first | rfl | (simp only [upd_at, Nat.reduceEqDiff, if_true, if_false]; rfl)⟩
  ·rintro k ⟨e, hp0⟩ ⟨i, hk0, hx0_0, sl0, e0_0, e0_6, e0_14, e0_15, e0_16⟩
   simp only at sl0 e0_0 e0_6 e0_14 e0_15 e0_16
   have hB := sl0
   refine pwp_hpok fun hok0 => ?_
   simp only at hok0
   refine pwp_then fun N57 hN57 => ?_
   refine pwp_reg fun R58 hR58 => ?_
   refine pops_to rfl fun M hM => ?_
   simp only [pop, St.eval, popBin, binK, intK, eq_self, true_and, e0_15, e0_16]
   refine hM _ _ ?_
   clear hM M
   refine pops_done (hR58 _ ?_)
   clear hR58 R58
   try simp only [thenK]
   refine hN57 _ ?_
   clear hN57 N57
   refine pwp_then fun N59 hN59 => ?_
   refine pwp_cond (by simp only [St.eval, upd_at, if_true] <;> rfl) (fun c17 => ?_) (fun c17 => ?_)
   ·skip
    have hi : i < l.length := by have := of_decide_eq_true c17; omega
    obtain ⟨g, hg⟩ : ∃ g, l[i]? = some g := ⟨_, List.getElem?_eq_getElem hi⟩
    have hget := encL_at hg
    rw [encG_eq] at hget
    have hgw := lW_take hg
    have hge := gW_eq g
    have hrl := rng_len g.ranges
    have hwl := wW_len g.ways
    obtain ⟨hkk, hfm, hcg⟩ := chk_ok hc g (List.mem_of_getElem? hg)
    obtain ⟨hgr, hcw⟩ := chkG_parts hcg
    have hsl := shL_len w (l.take i)
    have hst := shL_take (w := w) hg
    refine pwp_skip ?_
    try simp only [thenK]
    refine hN59 _ ?_
    clear hN59 N59
    refine pwp_then fun N60 hN60 => ?_
    refine pwp_block ?_
    refine pwp_then fun N61 hN61 => ?_
    refine pwp_reg fun R62 hR62 => ?_
    refine pops_to rfl fun M hM => ?_
    simp only [pop, St.eval, upd_at, Nat.reduceEqDiff, if_false, popIndexAddr, Tryd.underlying22, sz64, eq_self, true_and, e0_14, e0_16, hget, Int.toNat_natCast]
    refine ⟨Int.natCast_nonneg _, hM _ _ ?_⟩
    clear hM M
    refine pops_to rfl fun M hM => ?_
    simp only [pop, St.eval, upd_at, Nat.reduceEqDiff, if_true, if_false, List.length_cons, List.length_nil, Nat.zero_add, Nat.reduceAdd, Nat.reduceLeDiff, List.take_succ_cons, List.take_nil, popLoad, loadK, isAggD, Tryd.underlying64, sz64, eq_self, true_and]
    refine hM _ _ ?_
    clear hM M
    refine pops_var (hpOk.same hok0 (Same.refl _)) rfl ze64 (zs := [PV.val (.int .i64 0), PV.val (.string ⟨#[]⟩), PV.val (.bool false), PV.val (.slice none 0 0), PV.val (.slice none 0 0)]) (by kernel_rfl) (by simp) (by simp only [St.eval, slotCells, upd_at, Nat.reduceEqDiff, if_true, if_false] <;> rfl) (by rfl) (by exact Nat.succ_pos _) (by rw [sz64]; rfl) (fun hv63 sv63 => ?_)
    refine pops_done (hR62 _ ?_)
    clear hR62 R62
    try simp only [thenK]
    refine hN61 _ ?_
    clear hN61 N61
    refine pwp_then fun N64 hN64 => ?_
    refine pwp_reg fun R65 hR65 => ?_
    refine pops_to rfl fun M hM => ?_
    simp only [pop, St.eval, upd_at, Nat.reduceEqDiff, if_true, if_false, popFieldAddr, fieldOf, List.drop_zero, List.getElem?_toArray, List.getElem?_cons_zero, Tryd.underlying64, sz3]
    refine ⟨⟨_, rfl⟩, hM _ _ ?_⟩
    clear hM M
    refine pops_to rfl fun M hM => ?_
    simp only [pop, St.eval, upd_at, Nat.reduceEqDiff, if_true, if_false, popLoad, loadK, isAggD, Bool.false_eq_true, Tryd.underlying3, sz3, eq_self]
    refine hM _ _ ?_
    clear hM M
    refine pops_done (hR65 _ ?_)
    clear hR65 R65
    try simp only [thenK]
    refine hN64 _ ?_
    clear hN64 N64
    refine pwp_block ?_
    refine pwp_then fun N66 hN66 => ?_
    refine pwp_reg fun R67 hR67 => ?_
    refine pops_to rfl fun M hM => ?_
    simp only [pop, St.eval, constSlot, upd_at, Nat.reduceEqDiff, if_true, if_false, popBin, binK, intK, eq_self, true_and]
    refine hM _ _ ?_
    clear hM M
    refine pops_mv (.inr rfl) rfl (by simp only [St.eval, upd_at, Nat.reduceEqDiff, if_true, if_false] <;> rfl) ?_
    refine pops_done (hR67 _ ?_)
    clear hR67 R67
    try simp only [thenK]
    refine hN66 _ ?_
    clear hN66 N66
    refine pwp_cond (by simp only [St.eval, upd_at, Nat.reduceEqDiff, if_true, if_false] <;> rfl) (fun c22 => ?_) (fun c22 => ?_)
    ·skip
     have hk : g.kind = 1 := by simpa using c22
     have hsh : shG w g = escT (someOf w).contains g.text := by rw [shG_eq, if_pos hk]; exact (esc_congr (someOf_has w) _).symm
     refine pwp_reg fun R68 hR68 => ?_
     refine pops_mv (.inl rfl) rfl (by simp only [St.eval, upd_at, Nat.reduceEqDiff, if_false, e0_0] <;> rfl) ?_
     refine pops_to rfl fun M hM => ?_
     simp only [pop, St.eval, upd_at, Nat.reduceEqDiff, if_true, if_false, popFieldAddr, fieldOf, List.drop_succ_cons, List.drop_zero, List.getElem?_toArray, List.getElem?_cons_zero, List.getElem?_cons_succ, Tryd.underlying64, sz9]
     refine ⟨⟨_, rfl⟩, hM _ _ ?_⟩
     clear hM M
     refine pops_to rfl fun M hM => ?_
     simp only [pop, St.eval, upd_at, Nat.reduceEqDiff, if_true, if_false, popLoad, loadK, isAggD, Bool.false_eq_true, Tryd.underlying9, sz9, eq_self]
     refine hM _ _ ?_
     clear hM M
     refine pops_mv (.inl rfl) rfl (by simp only [St.eval, upd_at, Nat.reduceEqDiff, if_false, e0_6] <;> rfl) ?_
     refine pops_to rfl fun M hM => ?_
     simp only [pop, St.eval, constSlot, upd_at, Nat.reduceEqDiff, if_true, if_false, popCall, List.map_nil, svs, List.mapM_cons, List.mapM_nil, Option.bind_eq_bind, Option.bind_some, Option.pure_def, List.append_nil]
     first
       | refine (escape_bld W0 h0 id _ g.text (someOf w) hb0 (by first | omega | (simp only [List.length_append]; omega)) _ (hB.keeps (Same.keeps sv63))).mono ?_
     rintro _ h9 ⟨rfl, hB9⟩
     refine hM _ _ ?_
     clear hM M
     refine pops_done (hR68 _ ?_)
     clear hR68 R68
     try simp only [blockK, thenK]
     try simp only [blockK, thenK, scopeK]
     try simp only [thenK, scopeK]
     refine hN60 _ ?_
     clear hN60 N60
     refine pwp_reg fun R69 hR69 => ?_
     refine pops_to rfl fun M hM => ?_
     simp only [pop, St.eval, constSlot, upd_at, Nat.reduceEqDiff, if_false, popBin, binK, intK, eq_self, true_and, e0_16]
     refine hM _ _ ?_
     clear hM M
     refine pops_mv (.inl rfl) rfl (by simp only [St.eval, upd_at, Nat.reduceEqDiff, if_true, if_false] <;> rfl) ?_
     refine pops_done (hR69 _ ?_)
     clear hR69 R69
     try simp only [thenK]
     exact ⟨_, by omega, _, .refl _ _, i + 1, rfl, by omega, by rw [hst, hsh]; have e9 := hB9.keeps (Same.keeps (Same.refl _)); simpa [List.append_assoc] using e9, by simp only [upd_at, Nat.reduceEqDiff, if_false, e0_0], by simp only [upd_at, Nat.reduceEqDiff, if_false, e0_6], by simp only [upd_at, Nat.reduceEqDiff, if_false, e0_14], by simp only [upd_at, Nat.reduceEqDiff, if_false, e0_15], by simp only [upd_at, Nat.reduceEqDiff, if_true, if_false, e0_16]; rw [wrap_succ (by omega)]⟩
    ·skip
     have hk1 : ¬ g.kind = 1 := by simpa using c22
     refine pwp_then fun N70 hN70 => ?_
     refine pwp_reg fun R71 hR71 => ?_
     refine pops_to rfl fun M hM => ?_
     simp only [pop, St.eval, constSlot, upd_at, Nat.reduceEqDiff, if_true, if_false, popBin, binK, intK, eq_self, true_and]
     refine hM _ _ ?_
     clear hM M
     refine pops_mv (.inr rfl) rfl (by simp only [St.eval, upd_at, Nat.reduceEqDiff, if_true, if_false] <;> rfl) ?_
     refine pops_done (hR71 _ ?_)
     clear hR71 R71
     try simp only [thenK]
     refine hN70 _ ?_
     clear hN70 N70
     refine pwp_cond (by simp only [St.eval, upd_at, Nat.reduceEqDiff, if_true, if_false] <;> rfl) (fun c29 => ?_) (fun c29 => ?_)
     ·skip
      have hk : g.kind = 2 := by simpa using c29
      have hsh : shG w g = [63] := by rw [shG_eq]; simp [hk]
      refine pwp_reg fun R72 hR72 => ?_
      refine pops_mv (.inl rfl) rfl (by simp only [St.eval, upd_at, Nat.reduceEqDiff, if_false, e0_0] <;> rfl) ?_
      refine pops_to rfl fun M hM => ?_
      simp only [pop, St.eval, constSlot, upd_at, Nat.reduceEqDiff, if_true, if_false, popCall, List.map_nil, svs, List.mapM_cons, List.mapM_nil, Option.bind_eq_bind, Option.bind_some, Option.pure_def, List.append_nil]
      first
        | refine (writeByte_bld W0 h0 id _ 63 hb0 (by first | omega | (simp only [List.length_append]; omega)) _ (hB.keeps (Same.keeps sv63))).mono ?_
      rintro _ h9 ⟨rfl, hB9⟩
      refine hM _ _ ?_
      clear hM M
      refine pops_done (hR72 _ ?_)
      clear hR72 R72
      try simp only [blockK, thenK]
      try simp only [blockK, thenK, scopeK]
      try simp only [thenK, scopeK]
      refine hN60 _ ?_
      clear hN60 N60
      refine pwp_reg fun R73 hR73 => ?_
      refine pops_to rfl fun M hM => ?_
      simp only [pop, St.eval, constSlot, upd_at, Nat.reduceEqDiff, if_false, popBin, binK, intK, eq_self, true_and, e0_16]
      refine hM _ _ ?_
      clear hM M
      refine pops_mv (.inl rfl) rfl (by simp only [St.eval, upd_at, Nat.reduceEqDiff, if_true, if_false] <;> rfl) ?_
      refine pops_done (hR73 _ ?_)
      clear hR73 R73
      try simp only [thenK]
      exact ⟨_, by omega, _, .refl _ _, i + 1, rfl, by omega, by rw [hst, hsh]; have e9 := hB9.keeps (Same.keeps (Same.refl _)); simpa [List.append_assoc] using e9, by simp only [upd_at, Nat.reduceEqDiff, if_false, e0_0], by simp only [upd_at, Nat.reduceEqDiff, if_false, e0_6], by simp only [upd_at, Nat.reduceEqDiff, if_false, e0_14], by simp only [upd_at, Nat.reduceEqDiff, if_false, e0_15], by simp only [upd_at, Nat.reduceEqDiff, if_true, if_false, e0_16]; rw [wrap_succ (by omega)]⟩
     ·skip
      have hk2 : ¬ g.kind = 2 := by simpa using c29
      refine pwp_then fun N74 hN74 => ?_
      refine pwp_reg fun R75 hR75 => ?_
      refine pops_to rfl fun M hM => ?_
      simp only [pop, St.eval, constSlot, upd_at, Nat.reduceEqDiff, if_true, if_false, popBin, binK, intK, eq_self, true_and]
      refine hM _ _ ?_
      clear hM M
      refine pops_mv (.inr rfl) rfl (by simp only [St.eval, upd_at, Nat.reduceEqDiff, if_true, if_false] <;> rfl) ?_
      refine pops_done (hR75 _ ?_)
      clear hR75 R75
      try simp only [thenK]
      refine hN74 _ ?_
      clear hN74 N74
      refine pwp_cond (by simp only [St.eval, upd_at, Nat.reduceEqDiff, if_true, if_false] <;> rfl) (fun c33 => ?_) (fun c33 => ?_)
      ·skip
       have hk : g.kind = 3 := by simpa using c33
       have hsh : shG w g = [42] := by rw [shG_eq]; simp [hk]
       refine pwp_reg fun R76 hR76 => ?_
       refine pops_mv (.inl rfl) rfl (by simp only [St.eval, upd_at, Nat.reduceEqDiff, if_false, e0_0] <;> rfl) ?_
       refine pops_to rfl fun M hM => ?_
       simp only [pop, St.eval, constSlot, upd_at, Nat.reduceEqDiff, if_true, if_false, popCall, List.map_nil, svs, List.mapM_cons, List.mapM_nil, Option.bind_eq_bind, Option.bind_some, Option.pure_def, List.append_nil]
       first
         | refine (writeByte_bld W0 h0 id _ 42 hb0 (by first | omega | (simp only [List.length_append]; omega)) _ (hB.keeps (Same.keeps sv63))).mono ?_
       rintro _ h9 ⟨rfl, hB9⟩
       refine hM _ _ ?_
       clear hM M
       refine pops_done (hR76 _ ?_)
       clear hR76 R76
       try simp only [blockK, thenK]
       try simp only [blockK, thenK, scopeK]
       try simp only [thenK, scopeK]
       refine hN60 _ ?_
       clear hN60 N60
       refine pwp_reg fun R77 hR77 => ?_
       refine pops_to rfl fun M hM => ?_
       simp only [pop, St.eval, constSlot, upd_at, Nat.reduceEqDiff, if_false, popBin, binK, intK, eq_self, true_and, e0_16]
       refine hM _ _ ?_
       clear hM M
       refine pops_mv (.inl rfl) rfl (by simp only [St.eval, upd_at, Nat.reduceEqDiff, if_true, if_false] <;> rfl) ?_
       refine pops_done (hR77 _ ?_)
       clear hR77 R77
       try simp only [thenK]
       exact ⟨_, by omega, _, .refl _ _, i + 1, rfl, by omega, by rw [hst, hsh]; have e9 := hB9.keeps (Same.keeps (Same.refl _)); simpa [List.append_assoc] using e9, by simp only [upd_at, Nat.reduceEqDiff, if_false, e0_0], by simp only [upd_at, Nat.reduceEqDiff, if_false, e0_6], by simp only [upd_at, Nat.reduceEqDiff, if_false, e0_14], by simp only [upd_at, Nat.reduceEqDiff, if_false, e0_15], by simp only [upd_at, Nat.reduceEqDiff, if_true, if_false, e0_16]; rw [wrap_succ (by omega)]⟩
      ·skip
       have hk3 : ¬ g.kind = 3 := by simpa using c33
       refine pwp_then fun N78 hN78 => ?_
       refine pwp_reg fun R79 hR79 => ?_
       refine pops_to rfl fun M hM => ?_
       simp only [pop, St.eval, constSlot, upd_at, Nat.reduceEqDiff, if_true, if_false, popBin, binK, intK, eq_self, true_and]
       refine hM _ _ ?_
       clear hM M
       refine pops_mv (.inr rfl) rfl (by simp only [St.eval, upd_at, Nat.reduceEqDiff, if_true, if_false] <;> rfl) ?_
       refine pops_done (hR79 _ ?_)
       clear hR79 R79
       try simp only [thenK]
       refine hN78 _ ?_
       clear hN78 N78
       refine pwp_cond (by simp only [St.eval, upd_at, Nat.reduceEqDiff, if_true, if_false] <;> rfl) (fun c37 => ?_) (fun c37 => ?_)
       ·skip
        have hk : g.kind = 4 := by simpa using c37
        have hsh : shG w g = [42, 42] := by rw [shG_eq]; simp [hk]
        refine pwp_reg fun R80 hR80 => ?_
        refine pops_mv (.inl rfl) rfl (by simp only [St.eval, upd_at, Nat.reduceEqDiff, if_false, e0_0] <;> rfl) ?_
        refine pops_to rfl fun M hM => ?_
        simp only [pop, St.eval, constSlot, upd_at, Nat.reduceEqDiff, if_true, if_false, popCall, List.map_nil, svs, List.mapM_cons, List.mapM_nil, Option.bind_eq_bind, Option.bind_some, Option.pure_def, List.append_nil]
        first
          | refine (writeString_bld W0 h0 id _ [42, 42] hb0 (by first | omega | (simp only [List.length_append, List.length_cons, List.length_nil]; omega)) _ (hB.keeps (Same.keeps sv63))).mono ?_
        rintro _ h9 ⟨rfl, hB9⟩
        refine hM _ _ ?_
        clear hM M
        refine pops_done (hR80 _ ?_)
        clear hR80 R80
        try simp only [blockK, thenK]
        try simp only [blockK, thenK, scopeK]
        try simp only [thenK, scopeK]
        refine hN60 _ ?_
        clear hN60 N60
        refine pwp_reg fun R81 hR81 => ?_
        refine pops_to rfl fun M hM => ?_
        simp only [pop, St.eval, constSlot, upd_at, Nat.reduceEqDiff, if_false, popBin, binK, intK, eq_self, true_and, e0_16]
        refine hM _ _ ?_
        clear hM M
        refine pops_mv (.inl rfl) rfl (by simp only [St.eval, upd_at, Nat.reduceEqDiff, if_true, if_false] <;> rfl) ?_
        refine pops_done (hR81 _ ?_)
        clear hR81 R81
        try simp only [thenK]
        exact ⟨_, by omega, _, .refl _ _, i + 1, rfl, by omega, by rw [hst, hsh]; have e9 := hB9.keeps (Same.keeps (Same.refl _)); simpa [List.append_assoc] using e9, by simp only [upd_at, Nat.reduceEqDiff, if_false, e0_0], by simp only [upd_at, Nat.reduceEqDiff, if_false, e0_6], by simp only [upd_at, Nat.reduceEqDiff, if_false, e0_14], by simp only [upd_at, Nat.reduceEqDiff, if_false, e0_15], by simp only [upd_at, Nat.reduceEqDiff, if_true, if_false, e0_16]; rw [wrap_succ (by omega)]⟩
       ·skip
        have hk4 : ¬ g.kind = 4 := by simpa using c37
        refine pwp_then fun N82 hN82 => ?_
        refine pwp_reg fun R83 hR83 => ?_
        refine pops_to rfl fun M hM => ?_
        simp only [pop, St.eval, constSlot, upd_at, Nat.reduceEqDiff, if_true, if_false, popBin, binK, intK, eq_self, true_and]
        refine hM _ _ ?_
        clear hM M
        refine pops_mv (.inr rfl) rfl (by simp only [St.eval, upd_at, Nat.reduceEqDiff, if_true, if_false] <;> rfl) ?_
        refine pops_done (hR83 _ ?_)
        clear hR83 R83
        try simp only [thenK]
        refine hN82 _ ?_
        clear hN82 N82
        refine pwp_cond (by simp only [St.eval, upd_at, Nat.reduceEqDiff, if_true, if_false] <;> rfl) (fun c41 => ?_) (fun c41 => ?_)
        ·skip
         have hk : g.kind = 5 := by simpa using c41
         have hsh : shG w g = showS g.neg g.ranges := by rw [shG_eq]; simp [hk]
         refine pwp_reg fun R84 hR84 => ?_
         refine pops_mv (.inl rfl) rfl (by simp only [St.eval, upd_at, Nat.reduceEqDiff, if_false, e0_0] <;> rfl) ?_
         refine pops_to rfl fun M hM => ?_
         simp only [pop, St.eval, upd_at, Nat.reduceEqDiff, if_true, if_false, List.length_cons, List.length_nil, Nat.zero_add, Nat.reduceAdd, Nat.reduceLeDiff, List.take_succ_cons, List.take_nil, popLoad, loadK, isAggD, Tryd.underlying64, sz64, eq_self, true_and]
         refine hM _ _ ?_
         clear hM M
         refine pops_to rfl fun M hM => ?_
         simp only [pop, St.eval, constSlot, upd_at, Nat.reduceEqDiff, if_true, if_false, popCall, List.map_nil, svs, List.mapM_cons, List.mapM_nil, Option.bind_eq_bind, Option.bind_some, Option.pure_def, List.append_nil]
         first
           | refine (printSet_bld W0 h0 id _ g hgr hb0 (by omega) (by first | omega | (simp only [List.length_append]; omega)) _ (hB.keeps (Same.keeps sv63))).mono ?_
         rintro _ h9 ⟨rfl, hB9⟩
         refine hM _ _ ?_
         clear hM M
         refine pops_done (hR84 _ ?_)
         clear hR84 R84
         try simp only [blockK, thenK]
         try simp only [blockK, thenK, scopeK]
         try simp only [thenK, scopeK]
         refine hN60 _ ?_
         clear hN60 N60
         refine pwp_reg fun R85 hR85 => ?_
         refine pops_to rfl fun M hM => ?_
         simp only [pop, St.eval, constSlot, upd_at, Nat.reduceEqDiff, if_false, popBin, binK, intK, eq_self, true_and, e0_16]
         refine hM _ _ ?_
         clear hM M
         refine pops_mv (.inl rfl) rfl (by simp only [St.eval, upd_at, Nat.reduceEqDiff, if_true, if_false] <;> rfl) ?_
         refine pops_done (hR85 _ ?_)
         clear hR85 R85
         try simp only [thenK]
         exact ⟨_, by omega, _, .refl _ _, i + 1, rfl, by omega, by rw [hst, hsh]; have e9 := hB9.keeps (Same.keeps (Same.refl _)); simpa [List.append_assoc] using e9, by simp only [upd_at, Nat.reduceEqDiff, if_false, e0_0], by simp only [upd_at, Nat.reduceEqDiff, if_false, e0_6], by simp only [upd_at, Nat.reduceEqDiff, if_false, e0_14], by simp only [upd_at, Nat.reduceEqDiff, if_false, e0_15], by simp only [upd_at, Nat.reduceEqDiff, if_true, if_false, e0_16]; rw [wrap_succ (by omega)]⟩
        ·skip
         have hk5 : ¬ g.kind = 5 := by simpa using c41
         refine pwp_then fun N86 hN86 => ?_
         refine pwp_reg fun R87 hR87 => ?_
         refine pops_to rfl fun M hM => ?_
         simp only [pop, St.eval, constSlot, upd_at, Nat.reduceEqDiff, if_true, if_false, popBin, binK, intK, eq_self, true_and]
         refine hM _ _ ?_
         clear hM M
         refine pops_mv (.inr rfl) rfl (by simp only [St.eval, upd_at, Nat.reduceEqDiff, if_true, if_false] <;> rfl) ?_
         refine pops_done (hR87 _ ?_)
         clear hR87 R87
         try simp only [thenK]
         refine hN86 _ ?_
         clear hN86 N86
         refine pwp_cond (by simp only [St.eval, upd_at, Nat.reduceEqDiff, if_true, if_false] <;> rfl) (fun c46 => ?_) (fun c46 => ?_)
         ·skip
          have hk : g.kind = 6 := by simpa using c46
          have hsh : shG w g = shW true g.ways ++ [125] := by rw [shG_eq]; simp [hk]
          refine pwp_then fun N88 hN88 => ?_
          refine pwp_then fun N89 hN89 => ?_
          refine pwp_reg fun R90 hR90 => ?_
          refine pops_to rfl fun M hM => ?_
          simp only [pop, St.eval, upd_at, Nat.reduceEqDiff, if_true, if_false, popFieldAddr, fieldOf, List.drop_succ_cons, List.drop_zero, List.getElem?_toArray, List.getElem?_cons_zero, List.getElem?_cons_succ, Tryd.underlying64, sz62]
          refine ⟨⟨_, rfl⟩, hM _ _ ?_⟩
          clear hM M
          refine pops_to rfl fun M hM => ?_
          simp only [pop, St.eval, upd_at, Nat.reduceEqDiff, if_true, if_false, popLoad, loadK, isAggD, Bool.false_eq_true, Tryd.underlying62, sz62, eq_self]
          refine hM _ _ ?_
          clear hM M
          refine pops_to rfl fun M hM => ?_
          simp only [pop, St.eval, upd_at, Nat.reduceEqDiff, if_true, if_false, popCall, List.map_cons, List.map_nil, popBuiltin, popLen, lenOfSlot, Tryd.underlying62, eq_self, encW_len]
          refine hM _ _ ?_
          clear hM M
          refine pops_mv (.inl rfl) rfl (by simp only [St.eval, constSlot] <;> rfl) ?_
          refine pops_done (hR90 _ ?_)
          clear hR90 R90
          try simp only [thenK]
          refine hN89 _ ?_
          clear hN89 N89
          refine pwp_block ?_
          refine pwp_loop (fun k σ => ∃ (j : Nat), (k = g.ways.length - j) ∧ (j ≤ g.ways.length) ∧ (Bld 94 5 h0 σ.hp id (acc ++ shL w (l.take i) ++ shW true (g.ways.take j))) ∧ (σ.env 0 = .sv (.one (.ptr id 0 0 0))) ∧ (σ.env 6 = .sv (.one (pstr (someOf w)))) ∧ (σ.env 14 = .sv (.one (.ro false 5 (encL l)))) ∧ (σ.env 15 = .sv (.one (pint (l.length : Nat)))) ∧ (σ.env 16 = .sv (.one (pint (i : Nat)))) ∧ (σ.env 8 = .sv (.one (.rop [pint g.kind, pstr g.text, pbool g.neg, .ro false 2 (rngPV g.ranges), .ro false 1 (encW g.ways)]))) ∧ (σ.env 49 = .sv (.one (.ro false 1 (encW g.ways)))) ∧ (σ.env 50 = .sv (.one (pint (g.ways.length : Nat)))) ∧ (σ.env 51 = .sv (.one (pint (j : Nat))))) _ ⟨_, .refl _ _, 0, rfl, ?_⟩ ?_
          · exact ⟨Nat.zero_le _, by rw [List.take_zero, shW, List.append_nil]; exact hB.keeps (Same.keeps sv63), by simp only [upd_at, Nat.reduceEqDiff, if_false, e0_0], by simp only [upd_at, Nat.reduceEqDiff, if_false, e0_6], by simp only [upd_at, Nat.reduceEqDiff, if_false, e0_14], by simp only [upd_at, Nat.reduceEqDiff, if_false, e0_15], by simp only [upd_at, Nat.reduceEqDiff, if_false, e0_16], by simp only [upd_at, Nat.reduceEqDiff, if_true, if_false], by simp only [upd_at, Nat.reduceEqDiff, if_true, if_false], by first | rfl | (simp only [upd_at, Nat.reduceEqDiff, if_true, if_false]; rfl), by first | rfl | (simp only [upd_at, Nat.reduceEqDiff, if_true, if_false]; rfl)⟩
          ·rintro k ⟨e, hp1⟩ ⟨j, hk1, hx1_0, sl1, e1_0, e1_6, e1_14, e1_15, e1_16, e1_8, e1_49, e1_50, e1_51⟩
           simp only at sl1 e1_0 e1_6 e1_14 e1_15 e1_16 e1_8 e1_49 e1_50 e1_51
           have hBw := sl1
           refine pwp_hpok fun hok1 => ?_
           simp only at hok1
           refine pwp_then fun N91 hN91 => ?_
           refine pwp_reg fun R92 hR92 => ?_
           refine pops_to rfl fun M hM => ?_
           simp only [pop, St.eval, popBin, binK, intK, eq_self, true_and, e1_50, e1_51]
           refine hM _ _ ?_
           clear hM M
           refine pops_done (hR92 _ ?_)
           clear hR92 R92
           try simp only [thenK]
           refine hN91 _ ?_
           clear hN91 N91
           refine pwp_then fun N93 hN93 => ?_
           refine pwp_cond (by simp only [St.eval, upd_at, if_true] <;> rfl) (fun c52 => ?_) (fun c52 => ?_)
           ·skip
            have hj : j < g.ways.length := by have := of_decide_eq_true c52; omega
            obtain ⟨v, hv⟩ : ∃ v, g.ways[j]? = some v := ⟨_, List.getElem?_eq_getElem hj⟩
            have hgetw := encW_at hv
            have hlt := way_lt hg hv
            have hv0 := chkW_ok hcw v (List.mem_of_getElem? hv)
            obtain ⟨hbr, hbr0⟩ := brace_at j
            have hwt := wW_take hv
            have hswl := shW_len true (g.ways.take j)
            have hws := shW_take hv
            refine pwp_skip ?_
            try simp only [thenK]
            refine hN93 _ ?_
            clear hN93 N93
            refine pwp_then fun N94 hN94 => ?_
            refine pwp_block ?_
            refine pwp_then fun N95 hN95 => ?_
            refine pwp_reg fun R96 hR96 => ?_
            refine pops_mv (.inl rfl) rfl (by simp only [St.eval, upd_at, Nat.reduceEqDiff, if_false, e1_51] <;> rfl) ?_
            refine pops_to rfl fun M hM => ?_
            simp only [pop, St.eval, upd_at, Nat.reduceEqDiff, if_false, popIndexAddr, Tryd.underlying62, sz22, eq_self, true_and, e1_49, e1_51, hgetw, Int.toNat_natCast]
            refine ⟨Int.natCast_nonneg _, hM _ _ ?_⟩
            clear hM M
            refine pops_to rfl fun M hM => ?_
            simp only [pop, St.eval, upd_at, Nat.reduceEqDiff, if_true, if_false, popLoad, loadK, isAggD, Bool.false_eq_true, Tryd.underlying22, sz22, eq_self]
            refine hM _ _ ?_
            clear hM M
            refine pops_mv (.inr rfl) rfl (by simp only [St.eval, upd_at, Nat.reduceEqDiff, if_true, if_false] <;> rfl) ?_
            refine pops_mv (.inr rfl) rfl (by simp only [St.eval, upd_at, Nat.reduceEqDiff, if_true, if_false] <;> rfl) ?_
            refine pops_done (hR96 _ ?_)
            clear hR96 R96
            try simp only [thenK]
            refine hN95 _ ?_
            clear hN95 N95
            refine pwp_then fun N97 hN97 => ?_
            refine pwp_reg fun R98 hR98 => ?_
            refine pops_mv (.inl rfl) rfl (by simp only [St.eval, upd_at, Nat.reduceEqDiff, if_false, e1_0] <;> rfl) ?_
            refine pops_mv (.inl rfl) rfl (by simp only [St.eval, upd_at, Nat.reduceEqDiff, if_true, if_false] <;> rfl) ?_
            refine pops_to rfl fun M hM => ?_
            simp only [pop, St.eval, constSlot, upd_at, Nat.reduceEqDiff, if_true, if_false, popCall, List.map_cons, List.map_nil, popBuiltin, eq_self]
            refine hM _ _ ?_
            clear hM M
            refine pops_to rfl fun M hM => ?_
            simp only [pop, St.eval, constSlot, upd_at, Nat.reduceEqDiff, if_true, if_false, popIndex, Tryd.underlying9, eq_self, str_get, hbr]
            refine ⟨hbr0, hM _ _ ?_⟩
            clear hM M
            refine pops_to rfl fun M hM => ?_
            simp only [pop, St.eval, constSlot, upd_at, Nat.reduceEqDiff, if_true, if_false, popCall, List.map_nil, svs, List.mapM_cons, List.mapM_nil, Option.bind_eq_bind, Option.bind_some, Option.pure_def, List.append_nil]
            first
              | refine (writeByte_bld W0 h0 id _ (if j = 0 then 123 else 44) hb0 (by first | omega | (simp only [List.length_append]; omega)) _ (hBw.keeps (Same.keeps (Same.refl _)))).mono ?_
            rintro _ h7 ⟨rfl, hB7⟩
            refine hM _ _ ?_
            clear hM M
            refine pops_done (hR98 _ ?_)
            clear hR98 R98
            try simp only [thenK]
            refine hN97 _ ?_
            clear hN97 N97
            refine pwp_reg fun R99 hR99 => ?_
            refine pops_mv (.inl rfl) rfl (by simp only [St.eval, upd_at, Nat.reduceEqDiff, if_false, e1_0] <;> rfl) ?_
            refine pops_mv (.inl rfl) rfl (by simp only [St.eval, upd_at, Nat.reduceEqDiff, if_true, if_false] <;> rfl) ?_
            refine pops_to rfl fun M hM => ?_
            simp only [pop, St.eval, constSlot, upd_at, Nat.reduceEqDiff, if_true, if_false, popCall, List.map_nil, svs, List.mapM_cons, List.mapM_nil, Option.bind_eq_bind, Option.bind_some, Option.pure_def, List.append_nil]
            first
              | refine (ih v hlt (by omega) false hv0 true _ (by first | omega | (simp only [List.length_append, List.length_cons, List.length_nil]; omega)) _ (hB7.keeps (Same.keeps (Same.refl _)))).mono ?_
            rintro _ h8 ⟨rfl, hB8⟩
            refine hM _ _ ?_
            clear hM M
            refine pops_done (hR99 _ ?_)
            clear hR99 R99
            try simp only [blockK, thenK]
            try simp only [thenK, scopeK]
            refine hN94 _ ?_
            clear hN94 N94
            refine pwp_reg fun R100 hR100 => ?_
            refine pops_to rfl fun M hM => ?_
            simp only [pop, St.eval, constSlot, upd_at, Nat.reduceEqDiff, if_false, popBin, binK, intK, eq_self, true_and, e1_51]
            refine hM _ _ ?_
            clear hM M
            refine pops_mv (.inl rfl) rfl (by simp only [St.eval, upd_at, Nat.reduceEqDiff, if_true, if_false] <;> rfl) ?_
            refine pops_done (hR100 _ ?_)
            clear hR100 R100
            try simp only [thenK]
            exact ⟨_, by omega, _, .refl _ _, j + 1, rfl, by omega, by rw [hws]; have e9 := hB8.keeps (Same.keeps (Same.refl _)); simpa [List.append_assoc] using e9, by simp only [upd_at, Nat.reduceEqDiff, if_false, e1_0], by simp only [upd_at, Nat.reduceEqDiff, if_false, e1_6], by simp only [upd_at, Nat.reduceEqDiff, if_false, e1_14], by simp only [upd_at, Nat.reduceEqDiff, if_false, e1_15], by simp only [upd_at, Nat.reduceEqDiff, if_false, e1_16], by simp only [upd_at, Nat.reduceEqDiff, if_false, e1_8], by simp only [upd_at, Nat.reduceEqDiff, if_false, e1_49], by simp only [upd_at, Nat.reduceEqDiff, if_false, e1_50], by simp only [upd_at, Nat.reduceEqDiff, if_true, if_false, e1_51]; rw [wrap_succ (by omega)]⟩
           ·skip
            obtain rfl : j = g.ways.length := by have := of_decide_eq_false c52; omega
            rw [List.take_length] at hBw
            have hswl := shW_len true g.ways
            refine pwp_exit ?_
            try simp only [thenK, blockK, if_true, Nat.reduceEqDiff, if_false]
            clear hN93 N93
            try simp only [blockK, scopeK, if_true, Nat.reduceEqDiff, if_false, thenK]
            try simp only [thenK, scopeK]
            refine hN88 _ ?_
            clear hN88 N88
            refine pwp_reg fun R101 hR101 => ?_
            refine pops_mv (.inl rfl) rfl (by simp only [St.eval, upd_at, Nat.reduceEqDiff, if_false, e1_0] <;> rfl) ?_
            refine pops_to rfl fun M hM => ?_
            simp only [pop, St.eval, constSlot, upd_at, Nat.reduceEqDiff, if_true, if_false, popCall, List.map_nil, svs, List.mapM_cons, List.mapM_nil, Option.bind_eq_bind, Option.bind_some, Option.pure_def, List.append_nil]
            first
              | refine (writeByte_bld W0 h0 id _ 125 hb0 (by first | omega | (simp only [List.length_append]; omega)) _ (hBw.keeps (Same.keeps (Same.refl _)))).mono ?_
            rintro _ h9 ⟨rfl, hB9⟩
            refine hM _ _ ?_
            clear hM M
            refine pops_done (hR101 _ ?_)
            clear hR101 R101
            try simp only [blockK, thenK]
            try simp only [blockK, thenK, scopeK]
            try simp only [thenK, scopeK]
            refine hN60 _ ?_
            clear hN60 N60
            refine pwp_reg fun R102 hR102 => ?_
            refine pops_to rfl fun M hM => ?_
            simp only [pop, St.eval, constSlot, upd_at, Nat.reduceEqDiff, if_false, popBin, binK, intK, eq_self, true_and, e1_16]
            refine hM _ _ ?_
            clear hM M
            refine pops_mv (.inl rfl) rfl (by simp only [St.eval, upd_at, Nat.reduceEqDiff, if_true, if_false] <;> rfl) ?_
            refine pops_done (hR102 _ ?_)
            clear hR102 R102
            try simp only [thenK]
            exact ⟨_, by omega, _, .refl _ _, i + 1, rfl, by omega, by rw [hst, hsh]; have e9 := hB9.keeps (Same.keeps (Same.refl _)); simpa [List.append_assoc] using e9, by simp only [upd_at, Nat.reduceEqDiff, if_false, e1_0], by simp only [upd_at, Nat.reduceEqDiff, if_false, e1_6], by simp only [upd_at, Nat.reduceEqDiff, if_false, e1_14], by simp only [upd_at, Nat.reduceEqDiff, if_false, e1_15], by simp only [upd_at, Nat.reduceEqDiff, if_true, if_false]; rw [wrap_succ (by omega)]⟩
         ·skip
          have hk6 : ¬ g.kind = 6 := by simpa using c46
          omega
   ·skip
    obtain rfl : i = l.length := by have := of_decide_eq_false c17; omega
    rw [List.take_length] at hB
    refine pwp_exit ?_
    try simp only [thenK, blockK, if_true]
    clear hN59 N59
    try simp only [blockK, scopeK, if_true, Nat.reduceEqDiff, if_false, thenK]
    simp only [bodyK]
    exact ⟨_, rfl, _, _, .refl _ _ _, rfl, hB⟩
end Go.Pw
