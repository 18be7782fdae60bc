import Derived.Test.YtokmndkkgbamfaaDoorDealG
import Derived.Test.YtokmndkkgbamfaaDoorDealC
namespace Go.Pw
open Go Go.RowKit Go.Proofs
set_option maxRecDepth 100000
set_option linter.unusedSimpArgs false
set_option linter.unusedVariables false
theorem by9 : bytesOf' Tryd.prog 9 = some 16 := by kernel_rfl
theorem sz24 : szOf Tryd.prog 24 = some 1 := by kernel_rfl
theorem ze9 : zeroOf Tryd.prog 9 = some (.string ⟨#[]⟩) := by kernel_rfl

def rowsPV (L : List (List (List UInt8))) : List (List PV) := L.map fun l => [.ro false 1 (pstrs l)]
theorem rowsPV_len (L : List (List (List UInt8))) : (rowsPV L).length = L.length := by simp [rowsPV]
theorem pstrs_len (l : List (List UInt8)) : (pstrs l).length = l.length := by simp [pstrs]
theorem pstrs_app (a b : List (List UInt8)) : pstrs (a ++ b) = pstrs a ++ pstrs b := by simp [pstrs]
theorem flat_step {L : List (List (List UInt8))} {i : Nat} {x : List (List UInt8)} (hx : L[i]? = some x) : (L.take (i + 1)).flatten = (L.take i).flatten ++ x := by
  rw [List.take_add_one, hx]; simp
theorem flat_le (L : List (List (List UInt8))) (i : Nat) : (L.take i).flatten.length ≤ L.flatten.length := by
  have e : L.flatten = (L.take i).flatten ++ (L.drop i).flatten := by rw [← List.flatten_append, List.take_append_drop]
  rw [e, List.length_append]; omega
theorem nm12 : (Tryd.f12.name == "runtime.NumGoroutine") = false := by kernel_rfl
set_option maxHeartbeats 2000000 in
theorem concat_fun (W0 : World) (full : Bool) (L : List (List (List UInt8))) (hn : L.length ≤ 100) (hL : L.flatten.length ≤ 4294967296) :
  PFun Tryd.prog W0 12 [.one (.ro full 1 (rowsPV L))] (.sv (.one (.ro false 1 (pstrs L.flatten)))) := by
 intro h
 refine pcalls1 (n := 36) Tryd.func12 rfl nm12 rfl fun hb => ?_
 refine pwp_then fun N1 hN1 => ?_
 refine pwp_reg fun R2 hR2 => ?_
 refine pops_mv (.inr rfl) rfl (by simp only [St.eval, constSlot] <;> rfl) ?_
 refine pops_done (hR2 _ ?_)
 clear hR2 R2
 try simp only [thenK, scopeK]
 refine hN1 _ ?_
 clear hN1 N1
 refine pwp_then fun N3 hN3 => ?_
 refine pwp_reg fun R4 hR4 => ?_
 refine pops_mv (.inr rfl) rfl (by simp only [St.eval, constSlot] <;> rfl) ?_
 refine pops_done (hR4 _ ?_)
 clear hR4 R4
 try simp only [thenK, scopeK]
 refine hN3 _ ?_
 clear hN3 N3
 refine pwp_then fun N5 hN5 => ?_
 refine pwp_then fun N6 hN6 => ?_
 refine pwp_reg fun R7 hR7 => ?_
 refine pops_mv (.inl rfl) rfl (by simp only [St.eval, upd_at, Nat.reduceEqDiff, if_true, if_false] <;> rfl) ?_
 refine pops_to rfl fun M hM => ?_
 simp only [pop, St.eval, constSlot, upd_at, Nat.reduceEqDiff, if_true, if_false, popCall, List.toList_toArray, List.map_cons, List.map_nil, popBuiltin, popLen, lenOfSlot, List.length_map, Tryd.underlying58, eq_self, true_and, and_true, str_list, str_size, str_app, str_cut, str_get, rowsPV_len]
 refine hM _ _ ?_
 clear hM M
 refine pops_mv (.inl rfl) rfl (by simp only [St.eval, constSlot] <;> rfl) ?_
 refine pops_done (hR7 _ ?_)
 clear hR7 R7
 try simp only [thenK, scopeK]
 refine hN6 _ ?_
 clear hN6 N6
 refine pwp_block ?_
 refine pwp_loop (fun k σ => ∃ (i : Nat), (k = L.length - i) ∧ (i ≤ L.length) ∧ (Same h σ.hp) ∧ (σ.env 0 = .sv (.one (.ro full 1 (rowsPV L)))) ∧ (σ.env 9 = .sv (.one (.ro full 1 (rowsPV L)))) ∧ (σ.env 10 = .sv (.one (pint (L.length : Nat)))) ∧ (σ.env 11 = .sv (.one (pint (i : Nat)))) ∧ (σ.env 3 = .sv (.one (pint ((L.take i).flatten.length : Nat))))) _ ⟨_, .refl _ _, 0, rfl, ?_⟩ ?_
 · exact ⟨Nat.zero_le _, (Same.refl _), by simp only [upd_at, Nat.reduceEqDiff, if_true, if_false], by simp only [upd_at, Nat.reduceEqDiff, if_true, if_false], by simp only [upd_at, Nat.reduceEqDiff, if_true, if_false], by simp only [upd_at, Nat.reduceEqDiff, if_true, if_false]; rfl, by simp only [upd_at, Nat.reduceEqDiff, if_true, if_false]; rfl⟩
 ·rintro k ⟨e, hp0⟩ ⟨i, hk0, hx0_0, sl0, e0_0, e0_9, e0_10, e0_11, e0_3⟩
  simp only at sl0 e0_0 e0_9 e0_10 e0_11 e0_3
  refine pwp_then fun N8 hN8 => ?_
  refine pwp_reg fun R9 hR9 => ?_
  refine pops_to rfl fun M hM => ?_
  simp only [pop, St.eval, constSlot, upd_at, Nat.reduceEqDiff, if_true, if_false, popBin, binK, intK, strK, eqK, eq_self, true_and, and_true, e0_0, e0_9, e0_10, e0_11, e0_3]
  refine hM _ _ ?_
  clear hM M
  refine pops_done (hR9 _ ?_)
  clear hR9 R9
  try simp only [thenK, scopeK]
  refine hN8 _ ?_
  clear hN8 N8
  refine pwp_then fun N10 hN10 => ?_
  refine pwp_cond (by simp only [St.eval, upd_at, Nat.reduceEqDiff, if_true, if_false, e0_0, e0_9, e0_10, e0_11, e0_3] <;> rfl) (fun c12 => ?_) (fun c12 => ?_)
  ·skip
   have hi : i < L.length := by have := of_decide_eq_true c12; omega
   obtain ⟨x, hx⟩ : ∃ x, L[i]? = some x := ⟨_, List.getElem?_eq_getElem hi⟩
   have hget : (rowsPV L)[i]? = some [.ro false 1 (pstrs x)] := by simp only [rowsPV, List.getElem?_map, hx, Option.map_some]
   have hst := flat_step hx
   have hle := flat_le L (i + 1)
   have hw18 : IntKind.i64.wrap (((L.take i).flatten.length : Int) + (x.length : Int)) = (((L.take (i + 1)).flatten.length : Nat) : Int) := by rw [hst, List.length_append] at *; rw [wrap_i64 (by omega) (by omega)]; omega
   refine pwp_skip ?_
   try simp only [thenK, scopeK]
   refine hN10 _ ?_
   clear hN10 N10
   refine pwp_then fun N11 hN11 => ?_
   refine pwp_block ?_
   refine pwp_then fun N12 hN12 => ?_
   refine pwp_reg fun R13 hR13 => ?_
   refine pops_to rfl fun M hM => ?_
   simp only [pop, St.eval, constSlot, upd_at, Nat.reduceEqDiff, if_true, if_false, popIndexAddr, Tryd.underlying58, sz24, eq_self, true_and, and_true, str_list, str_size, str_app, str_cut, str_get, e0_0, e0_9, e0_10, e0_11, e0_3, hget, Int.toNat_natCast]
   refine ⟨Int.natCast_nonneg _, hM _ _ ?_⟩
   clear hM M
   refine pops_to rfl fun M hM => ?_
   simp only [pop, St.eval, constSlot, upd_at, Nat.reduceEqDiff, if_true, if_false, popLoad, loadK, isAggD, List.drop_zero, List.getElem?_toArray, List.getElem?_cons_zero, List.getElem?_cons_succ, Bool.false_eq_true, Tryd.underlying24, sz24, eq_self, true_and, and_true, e0_0, e0_9, e0_10, e0_11, e0_3]
   refine hM _ _ ?_
   clear hM M
   refine pops_mv (.inr rfl) rfl (by simp only [St.eval, upd_at, Nat.reduceEqDiff, if_true, if_false, e0_0, e0_9, e0_10, e0_11, e0_3] <;> rfl) ?_
   refine pops_done (hR13 _ ?_)
   clear hR13 R13
   try simp only [thenK, scopeK]
   refine hN12 _ ?_
   clear hN12 N12
   refine pwp_then fun N14 hN14 => ?_
   refine pwp_reg fun R15 hR15 => ?_
   refine pops_mv (.inl rfl) rfl (by simp only [St.eval, upd_at, Nat.reduceEqDiff, if_true, if_false, e0_0, e0_9, e0_10, e0_11, e0_3] <;> rfl) ?_
   refine pops_mv (.inl rfl) rfl (by simp only [St.eval, upd_at, Nat.reduceEqDiff, if_true, if_false, e0_0, e0_9, e0_10, e0_11, e0_3] <;> rfl) ?_
   refine pops_to rfl fun M hM => ?_
   simp only [pop, St.eval, constSlot, upd_at, Nat.reduceEqDiff, if_true, if_false, popCall, List.toList_toArray, List.map_cons, List.map_nil, popBuiltin, popLen, lenOfSlot, List.length_map, Tryd.underlying24, eq_self, true_and, and_true, str_list, str_size, str_app, str_cut, str_get, e0_0, e0_9, e0_10, e0_11, e0_3, pstrs_len]
   refine hM _ _ ?_
   clear hM M
   refine pops_to rfl fun M hM => ?_
   simp only [pop, St.eval, constSlot, upd_at, Nat.reduceEqDiff, if_true, if_false, popBin, binK, intK, strK, eqK, eq_self, true_and, and_true, e0_0, e0_9, e0_10, e0_11, e0_3, hw18]
   refine hM _ _ ?_
   clear hM M
   refine pops_mv (.inr rfl) rfl (by simp only [St.eval, upd_at, Nat.reduceEqDiff, if_true, if_false, e0_0, e0_9, e0_10, e0_11, e0_3] <;> rfl) ?_
   refine pops_done (hR15 _ ?_)
   clear hR15 R15
   try simp only [thenK, scopeK]
   refine hN14 _ ?_
   clear hN14 N14
   refine pwp_then fun N16 hN16 => ?_
   refine pwp_reg fun R17 hR17 => ?_
   refine pops_mv (.inl rfl) rfl (by simp only [St.eval, upd_at, Nat.reduceEqDiff, if_true, if_false, e0_0, e0_9, e0_10, e0_11, e0_3] <;> rfl) ?_
   refine pops_to rfl fun M hM => ?_
   simp only [pop, St.eval, constSlot, upd_at, Nat.reduceEqDiff, if_true, if_false, popBin, binK, intK, strK, eqK, eq_self, true_and, and_true, e0_0, e0_9, e0_10, e0_11, e0_3]
   refine hM _ _ ?_
   clear hM M
   refine pops_done (hR17 _ ?_)
   clear hR17 R17
   try simp only [thenK, scopeK]
   refine hN16 _ ?_
   clear hN16 N16
   refine pwp_cond (by simp only [St.eval, upd_at, Nat.reduceEqDiff, if_true, if_false, e0_0, e0_9, e0_10, e0_11, e0_3] <;> rfl) (fun c20 => ?_) (fun c20 => ?_)
   ·skip
    have := of_decide_eq_true c20
    omega
   ·skip
    refine pwp_skip ?_
    try simp only [blockK, thenK, scopeK]
    try simp only [thenK, scopeK]
    refine hN11 _ ?_
    clear hN11 N11
    refine pwp_reg fun R18 hR18 => ?_
    refine pops_to rfl fun M hM => ?_
    simp only [pop, St.eval, constSlot, upd_at, Nat.reduceEqDiff, if_true, if_false, popBin, binK, intK, strK, eqK, eq_self, true_and, and_true, e0_0, e0_9, e0_10, e0_11, e0_3]
    refine hM _ _ ?_
    clear hM M
    refine pops_mv (.inl rfl) rfl (by simp only [St.eval, upd_at, Nat.reduceEqDiff, if_true, if_false, e0_0, e0_9, e0_10, e0_11, e0_3] <;> rfl) ?_
    refine pops_done (hR18 _ ?_)
    clear hR18 R18
    try simp only [thenK, scopeK]
    exact ⟨_, by omega, _, .refl _ _, i + 1, rfl, by omega, sl0, by simp only [upd_at, Nat.reduceEqDiff, if_true, if_false, e0_0, e0_9, e0_10, e0_11, e0_3], by simp only [upd_at, Nat.reduceEqDiff, if_true, if_false, e0_0, e0_9, e0_10, e0_11, e0_3], by simp only [upd_at, Nat.reduceEqDiff, if_true, if_false, e0_0, e0_9, e0_10, e0_11, e0_3], by simp only [upd_at, Nat.reduceEqDiff, if_true, if_false, e0_11]; rw [wrap_succ (by omega)], by simp only [upd_at, Nat.reduceEqDiff, if_true, if_false, e0_0, e0_9, e0_10, e0_11, e0_3]⟩
  ·skip
   have hi := of_decide_eq_false c12
   refine pwp_exit ?_
   try simp only [thenK, blockK, scopeK, if_true, Nat.reduceEqDiff, if_false]
   clear hN10 N10
   try simp only [blockK, scopeK, if_true, Nat.reduceEqDiff, if_false, thenK]
   try simp only [thenK, scopeK]
   refine hN5 _ ?_
   clear hN5 N5
   refine pwp_then fun N19 hN19 => ?_
   refine pwp_reg fun R20 hR20 => ?_
   refine pops_mv (.inl rfl) rfl (by simp only [St.eval, upd_at, Nat.reduceEqDiff, if_true, if_false, e0_0, e0_9, e0_10, e0_11, e0_3] <;> rfl) ?_
   refine pops_to rfl fun M hM => ?_
   simp only [pop, St.eval, constSlot, upd_at, Nat.reduceEqDiff, if_true, if_false, popCall, List.toList_toArray, List.map_cons, List.map_nil, svs, List.mapM_cons, List.mapM_nil, Option.bind_eq_bind, Option.bind_some, Option.pure_def, List.append_nil, List.cons_append, List.nil_append, str_size, e0_0, e0_9, e0_10, e0_11, e0_3]
   refine (grow_fun W0 (L.take i).flatten.length (by have := flat_le L i; omega) hb (Same.keeps sl0)).mono ?_
   rintro sl1 h1 ⟨ho1, hk1⟩
   refine hM _ _ ?_
   clear hM M
   refine pops_mv (.inr rfl) rfl (by simp only [St.eval, upd_at, Nat.reduceEqDiff, if_true, if_false, e0_0, e0_9, e0_10, e0_11, e0_3] <;> rfl) ?_
   refine pops_done (hR20 _ ?_)
   clear hR20 R20
   try simp only [thenK, scopeK]
   refine hN19 _ ?_
   clear hN19 N19
   refine pwp_then fun N21 hN21 => ?_
   refine pwp_then fun N22 hN22 => ?_
   refine pwp_reg fun R23 hR23 => ?_
   refine pops_mv (.inl rfl) rfl (by simp only [St.eval, upd_at, Nat.reduceEqDiff, if_true, if_false, e0_0, e0_9, e0_10, e0_11, e0_3] <;> rfl) ?_
   refine pops_to rfl fun M hM => ?_
   simp only [pop, St.eval, constSlot, upd_at, Nat.reduceEqDiff, if_true, if_false, popCall, List.toList_toArray, List.map_cons, List.map_nil, popBuiltin, popLen, lenOfSlot, List.length_map, Tryd.underlying58, eq_self, true_and, and_true, str_list, str_size, str_app, str_cut, str_get, e0_0, e0_9, e0_10, e0_11, e0_3, rowsPV_len]
   refine hM _ _ ?_
   clear hM M
   refine pops_mv (.inl rfl) rfl (by simp only [St.eval, constSlot] <;> rfl) ?_
   refine pops_done (hR23 _ ?_)
   clear hR23 R23
   try simp only [thenK, scopeK]
   refine hN22 _ ?_
   clear hN22 N22
   refine pwp_block ?_
   refine pwp_loop (fun k σ => ∃ (j : Nat), ∃ (sl : Slot), (k = L.length - j) ∧ (j ≤ L.length) ∧ (Keeps h σ.hp ∧ RowIs 9 1 h σ.hp sl (pstrs (L.take j).flatten)) ∧ (σ.env 25 = .sv (.one (.ro full 1 (rowsPV L)))) ∧ (σ.env 26 = .sv (.one (pint (L.length : Nat)))) ∧ (σ.env 27 = .sv (.one (pint (j : Nat)))) ∧ (σ.env 6 = sl)) _ ⟨_, .refl _ _, 0, sl1, rfl, ?_⟩ ?_
   · exact ⟨Nat.zero_le _, ⟨hk1, ho1⟩, by simp only [upd_at, Nat.reduceEqDiff, if_true, if_false, e0_0, e0_9, e0_10, e0_11, e0_3], by simp only [upd_at, Nat.reduceEqDiff, if_true, if_false, e0_0, e0_9, e0_10, e0_11, e0_3], by simp only [upd_at, Nat.reduceEqDiff, if_true, if_false]; rfl, by simp only [upd_at, Nat.reduceEqDiff, if_true, if_false, e0_0, e0_9, e0_10, e0_11, e0_3]⟩
   ·rintro k ⟨e, hp1⟩ ⟨j, sl, hk1, hx1_0, sl1, e1_25, e1_26, e1_27, e1_6⟩
    simp only at sl1 e1_25 e1_26 e1_27 e1_6
    obtain ⟨hk0, ho⟩ := sl1
    refine pwp_hpok fun hok1 => ?_
    simp only at hok1
    refine pwp_then fun N24 hN24 => ?_
    refine pwp_reg fun R25 hR25 => ?_
    refine pops_to rfl fun M hM => ?_
    simp only [pop, St.eval, constSlot, upd_at, Nat.reduceEqDiff, if_true, if_false, popBin, binK, intK, strK, eqK, eq_self, true_and, and_true, e1_25, e1_26, e1_27, e1_6]
    refine hM _ _ ?_
    clear hM M
    refine pops_done (hR25 _ ?_)
    clear hR25 R25
    try simp only [thenK, scopeK]
    refine hN24 _ ?_
    clear hN24 N24
    refine pwp_then fun N26 hN26 => ?_
    refine pwp_cond (by simp only [St.eval, upd_at, Nat.reduceEqDiff, if_true, if_false, e1_25, e1_26, e1_27, e1_6] <;> rfl) (fun c28 => ?_) (fun c28 => ?_)
    ·skip
     have hi : j < L.length := by have := of_decide_eq_true c28; omega
     obtain ⟨x, hx⟩ : ∃ x, L[j]? = some x := ⟨_, List.getElem?_eq_getElem hi⟩
     have hget : (rowsPV L)[j]? = some [.ro false 1 (pstrs x)] := by simp only [rowsPV, List.getElem?_map, hx, Option.map_some]
     have hst := flat_step hx
     have hle := flat_le L (j + 1)
     refine pwp_skip ?_
     try simp only [thenK, scopeK]
     refine hN26 _ ?_
     clear hN26 N26
     refine pwp_then fun N27 hN27 => ?_
     refine pwp_block ?_
     refine pwp_then fun N28 hN28 => ?_
     refine pwp_reg fun R29 hR29 => ?_
     refine pops_to rfl fun M hM => ?_
     simp only [pop, St.eval, constSlot, upd_at, Nat.reduceEqDiff, if_true, if_false, popIndexAddr, Tryd.underlying58, sz24, eq_self, true_and, and_true, str_list, str_size, str_app, str_cut, str_get, e1_25, e1_26, e1_27, e1_6, hget, Int.toNat_natCast]
     refine ⟨Int.natCast_nonneg _, hM _ _ ?_⟩
     clear hM M
     refine pops_to rfl fun M hM => ?_
     simp only [pop, St.eval, constSlot, upd_at, Nat.reduceEqDiff, if_true, if_false, popLoad, loadK, isAggD, List.drop_zero, List.getElem?_toArray, List.getElem?_cons_zero, List.getElem?_cons_succ, Bool.false_eq_true, Tryd.underlying24, sz24, eq_self, true_and, and_true, e1_25, e1_26, e1_27, e1_6]
     refine hM _ _ ?_
     clear hM M
     refine pops_mv (.inr rfl) rfl (by simp only [St.eval, upd_at, Nat.reduceEqDiff, if_true, if_false, e1_25, e1_26, e1_27, e1_6] <;> rfl) ?_
     refine pops_done (hR29 _ ?_)
     clear hR29 R29
     try simp only [thenK, scopeK]
     refine hN28 _ ?_
     clear hN28 N28
     refine pwp_reg fun R30 hR30 => ?_
     refine pops_mv (.inl rfl) rfl (by simp only [St.eval, upd_at, Nat.reduceEqDiff, if_true, if_false, e1_25, e1_26, e1_27, e1_6] <;> rfl) ?_
     refine pops_mv (.inl rfl) rfl (by simp only [St.eval, upd_at, Nat.reduceEqDiff, if_true, if_false, e1_25, e1_26, e1_27, e1_6] <;> rfl) ?_
     refine pops_to rfl fun M hM => ?_
     simp only [pop, St.eval, constSlot, upd_at, Nat.reduceEqDiff, if_true, if_false, popCall, List.toList_toArray, List.map_cons, List.map_nil, popBuiltin, eq_self, true_and, and_true, str_list, str_size, str_app, str_cut, str_get, e1_25, e1_26, e1_27, e1_6]
     refine row_app hb Tryd.underlying24 sz9 by9 ze9 rfl (by decide) (ho.same (Same.refl _)) (hk0.trans (Same.keeps (Same.refl _))) rfl (.inr rfl) ⟨by rw [pstrs_len, pstrs_len, ← List.length_append, ← hst]; omega, by rw [pstrs_len, pstrs_len, ← List.length_append, ← hst]; omega⟩ fun sl2 hp2 ho2 hk2 => hM _ _ ?_
     clear hM M
     refine pops_mv (.inr rfl) rfl (by simp only [St.eval, upd_at, Nat.reduceEqDiff, if_true, if_false, e1_25, e1_26, e1_27, e1_6] <;> rfl) ?_
     refine pops_done (hR30 _ ?_)
     clear hR30 R30
     try simp only [blockK, thenK, scopeK]
     try simp only [thenK, scopeK]
     refine hN27 _ ?_
     clear hN27 N27
     refine pwp_reg fun R31 hR31 => ?_
     refine pops_to rfl fun M hM => ?_
     simp only [pop, St.eval, constSlot, upd_at, Nat.reduceEqDiff, if_true, if_false, popBin, binK, intK, strK, eqK, eq_self, true_and, and_true, e1_25, e1_26, e1_27, e1_6]
     refine hM _ _ ?_
     clear hM M
     refine pops_mv (.inl rfl) rfl (by simp only [St.eval, upd_at, Nat.reduceEqDiff, if_true, if_false, e1_25, e1_26, e1_27, e1_6] <;> rfl) ?_
     refine pops_done (hR31 _ ?_)
     clear hR31 R31
     try simp only [thenK, scopeK]
     exact ⟨_, by omega, _, .refl _ _, j + 1, sl2, rfl, by omega, ⟨hk2, by rw [hst, pstrs_app]; exact ho2⟩, by simp only [upd_at, Nat.reduceEqDiff, if_true, if_false, e1_25, e1_26, e1_27, e1_6], by simp only [upd_at, Nat.reduceEqDiff, if_true, if_false, e1_25, e1_26, e1_27, e1_6], by simp only [upd_at, Nat.reduceEqDiff, if_true, if_false, e1_27]; rw [wrap_succ (by omega)], by simp only [upd_at, Nat.reduceEqDiff, if_true, if_false, e1_25, e1_26, e1_27, e1_6]⟩
    ·skip
     have hj := of_decide_eq_false c28
     refine pwp_exit ?_
     try simp only [thenK, blockK, scopeK, if_true, Nat.reduceEqDiff, if_false]
     clear hN26 N26
     try simp only [blockK, scopeK, if_true, Nat.reduceEqDiff, if_false, thenK]
     try simp only [thenK, scopeK]
     refine hN21 _ ?_
     clear hN21 N21
     refine pwp_then fun N32 hN32 => ?_
     refine pwp_reg fun R33 hR33 => ?_
     refine pops_mv (.inl rfl) rfl (by simp only [St.eval, upd_at, Nat.reduceEqDiff, if_true, if_false, e1_25, e1_26, e1_27, e1_6] <;> rfl) ?_
     refine pops_mv (.inr rfl) rfl (by simp only [St.eval, upd_at, Nat.reduceEqDiff, if_true, if_false, e1_25, e1_26, e1_27, e1_6] <;> rfl) ?_
     refine pops_done (hR33 _ ?_)
     clear hR33 R33
     try simp only [thenK, scopeK]
     refine hN32 _ ?_
     clear hN32 N32
     refine pwp_ret ?_
     simp only [thenK, blockK, scopeK, bodyK]
     exact ⟨_, rfl, by
       have e : (L.take j) = L := List.take_of_length_le (by omega)
       rw [e] at ho
       exact endRow ho hb hk0⟩
end Go.Pw
