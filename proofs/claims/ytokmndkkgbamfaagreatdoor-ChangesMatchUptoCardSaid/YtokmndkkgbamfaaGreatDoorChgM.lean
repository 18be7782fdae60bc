import Derived.Test.YtokmndkkgbamfaaGreatDoorChgB
import Derived.Test.YtokmndkkgbamfaaGreatDoorChgD
import Derived.Test.YtokmndkkgbamfaaGreatDoorChgFacts
namespace Go.Pw
open Go Go.RowKit Go.Proofs
set_option maxRecDepth 100000
set_option linter.unusedSimpArgs false
set_option linter.unusedVariables false

def mergeC (b : Int) : List MarkG → List MarkG → List (Int × List UInt8)
  | [], [] => []
  | x :: l, [] => (3, x.path) :: mergeC b l []
  | [], y :: m => (1, y.path) :: mergeC b [] m
  | x :: l, y :: m => if ordR x.path y.path < 0 then (3, x.path) :: mergeC b l (y :: m) else if 0 < ordR x.path y.path then (1, y.path) :: mergeC b (x :: l) m else (if differB x y b then [(2, y.path)] else []) ++ mergeC b l m
termination_by l m => l.length + m.length
def chgsR (b : Int) (l m : List MarkG) : List (Int × List UInt8) × Int := if rightB b = false then ([], 5) else if risesB l = false ∨ risesB m = false then ([], 10) else (mergeC b l m, 0)
theorem merge_a (b : Int) (x : MarkG) (l m : List MarkG) (h : m = [] ∨ ∃ y m', m = y :: m' ∧ ordR x.path y.path < 0) : mergeC b (x :: l) m = (3, x.path) :: mergeC b l m := by
  rcases h with rfl | ⟨y, m', rfl, h⟩
  · rw [mergeC]
  · rw [mergeC, if_pos h]
theorem merge_b (b : Int) (y : MarkG) (l m : List MarkG) (h : l = [] ∨ ∃ x l', l = x :: l' ∧ 0 < ordR x.path y.path) : mergeC b l (y :: m) = (1, y.path) :: mergeC b l m := by
  rcases h with rfl | ⟨x, l', rfl, h⟩
  · rw [mergeC]
  · rw [mergeC, if_neg (by omega), if_pos h]
theorem merge_ab (b : Int) (x y : MarkG) (l m : List MarkG) (h : ordR x.path y.path = 0) : mergeC b (x :: l) (y :: m) = (if differB x y b then [(2, y.path)] else []) ++ mergeC b l m := by
  rw [mergeC, if_neg (by omega), if_neg (by omega)]
theorem nm12 : (Tryz.f12.name == "runtime.NumGoroutine") = false := by kernel_rfl
set_option maxHeartbeats 4000000 in
theorem changes_fun (W0 : World) (A B : List MarkG) (b : Int) (hnA : A.length ≤ 1048576) (hnB : B.length ≤ 1048576) (hpA : ∀ x ∈ A, x.path.length ≤ 9223372036854775807) (hpB : ∀ x ∈ B, x.path.length ≤ 9223372036854775807) (h : Hp) :
  PCalls Tryz.prog W0 12 [.one (.ro false 4 (A.map markPV)), .one (.ro false 4 (B.map markPV)), .one (pint b)] h (fun r h' => ∃ s, r = .tup [.one s, .one (pint (chgsR b A B).2)] ∧ (s = .val (.slice none 0 0) ∧ (chgsR b A B).1 = [] ∨ s = .ro false 2 ((chgsR b A B).1.map chgPV)) ∧ Same h h') := by
 refine pcalls3 (n := 81) Tryz.func12 rfl nm12 rfl fun hb => ?_
 refine pwp_then fun N1 hN1 => ?_
 refine pwp_reg fun R2 hR2 => ?_
 refine pops_mv (.inr rfl) rfl (by simp only [St.eval, constSlot] <;> rfl) ?_
 refine pops_mv (.inr rfl) rfl (by simp only [St.eval, constSlot] <;> rfl) ?_
 refine pops_done (hR2 _ ?_)
 clear hR2 R2
 try simp only [thenK, scopeK]
 refine hN1 _ ?_
 clear hN1 N1
 refine pwp_then fun N3 hN3 => ?_
 refine pwp_then fun N4 hN4 => ?_
 refine pwp_reg fun R5 hR5 => ?_
 refine pops_mv (.inl rfl) rfl (by simp only [St.eval, upd_at, Nat.reduceEqDiff, if_true, if_false, markPV] <;> rfl) ?_
 refine pops_to rfl fun M hM => ?_
 simp only [pop, St.eval, constSlot, upd_at, Nat.reduceEqDiff, if_true, if_false, popCall, List.toList_toArray, List.map_cons, List.map_nil, svs, List.mapM_cons, List.mapM_nil, Option.bind_eq_bind, Option.bind_some, Option.pure_def, List.append_nil, List.cons_append, List.nil_append, str_size, markPV]
 refine PFun.use (rightBy_fun W0 b) fun h1 s1 => hM _ _ ?_
 replace s1 := Same.trans (Same.refl _) s1
 clear hM M
 refine pops_to rfl fun M hM => ?_
 simp only [pop, St.eval, constSlot, upd_at, Nat.reduceEqDiff, if_true, if_false, unK, markPV]
 refine hM _ _ ?_
 clear hM M
 refine pops_done (hR5 _ ?_)
 clear hR5 R5
 try simp only [thenK, scopeK]
 refine hN4 _ ?_
 clear hN4 N4
 refine pwp_cond (by simp only [St.eval, upd_at, Nat.reduceEqDiff, if_true, if_false, markPV] <;> rfl) (fun c16 => ?_) (fun c16 => ?_)
 ·skip
  have hr : rightB b = false := by simpa using c16
  refine pwp_then fun N6 hN6 => ?_
  refine pwp_reg fun R7 hR7 => ?_
  refine pops_mv (.inr rfl) rfl (by simp only [St.eval, constSlot] <;> rfl) ?_
  refine pops_mv (.inr rfl) rfl (by simp only [St.eval, constSlot] <;> rfl) ?_
  refine pops_done (hR7 _ ?_)
  clear hR7 R7
  try simp only [thenK, scopeK]
  refine hN6 _ ?_
  clear hN6 N6
  refine pwp_ret ?_
  simp only [thenK, blockK, scopeK, bodyK]
  clear hN3 N3
  exact ⟨_, rfl, _, _, .refl _ _ _, .val (.slice none 0 0), by rw [chgsR, if_pos hr], .inl ⟨rfl, by rw [chgsR, if_pos hr]⟩, s1⟩
 ·skip
  have hr : ¬ rightB b = false := by simpa using c16
  refine pwp_skip ?_
  try simp only [thenK, scopeK]
  refine hN3 _ ?_
  clear hN3 N3
  refine pwp_then fun N8 hN8 => ?_
  refine pwp_then fun N9 hN9 => ?_
  refine pwp_reg fun R10 hR10 => ?_
  refine pops_mv (.inl rfl) rfl (by simp only [St.eval, upd_at, Nat.reduceEqDiff, if_true, if_false, markPV] <;> rfl) ?_
  refine pops_to rfl fun M hM => ?_
  simp only [pop, St.eval, constSlot, upd_at, Nat.reduceEqDiff, if_true, if_false, popCall, List.toList_toArray, List.map_cons, List.map_nil, svs, List.mapM_cons, List.mapM_nil, Option.bind_eq_bind, Option.bind_some, Option.pure_def, List.append_nil, List.cons_append, List.nil_append, str_size, markPV]
  refine PFun.use (rising_fun W0 false A (by omega) hpA) fun h2 s2 => hM _ _ ?_
  replace s2 := Same.trans s1 s2
  clear hM M
  refine pops_to rfl fun M hM => ?_
  simp only [pop, St.eval, constSlot, upd_at, Nat.reduceEqDiff, if_true, if_false, unK, markPV]
  refine hM _ _ ?_
  clear hM M
  refine pops_mv (.inl rfl) rfl (by simp only [St.eval, upd_at, Nat.reduceEqDiff, if_true, if_false, markPV] <;> rfl) ?_
  apply pops_or 4 20 24 [21, 22, 23] (by simp only [upd_at, Nat.reduceEqDiff, if_true, if_false, markPV] <;> rfl)
  ·skip
   intro g20_0 J11 hJ11
   simp only [List.take_succ_cons, List.take_zero]
   simp only [anyAt_cons, anyAt_nil] at hJ11
   refine pops_mvg (.inl rfl) rfl rfl (by simp only [upd_at, Nat.reduceEqDiff, if_true, if_false, markPV, g20_0]) (by simp only [St.eval, upd_at, Nat.reduceEqDiff, if_true, if_false, markPV, g20_0] <;> rfl) ?_
   refine pops_do rfl rfl (by simp only [upd_at, Nat.reduceEqDiff, if_true, if_false, markPV, g20_0]) fun M hM => ?_
   simp only [pop, St.eval, constSlot, upd_at, Nat.reduceEqDiff, if_true, if_false, popCall, List.toList_toArray, List.map_cons, List.map_nil, svs, List.mapM_cons, List.mapM_nil, Option.bind_eq_bind, Option.bind_some, Option.pure_def, List.append_nil, List.cons_append, List.nil_append, str_size, markPV, g20_0]
   refine PFun.use (rising_fun W0 false B (by omega) hpB) fun h3 s3 => hM _ _ ?_
   replace s3 := Same.trans (Same.refl _) s3
   clear hM M
   refine pops_do rfl rfl (by simp only [upd_at, Nat.reduceEqDiff, if_true, if_false, markPV, g20_0]) fun M hM => ?_
   simp only [pop, St.eval, constSlot, upd_at, Nat.reduceEqDiff, if_true, if_false, unK, markPV, g20_0]
   refine hM _ _ ?_
   clear hM M
   refine pops_to rfl fun M hM => ?_
   simp only [pop, St.eval, constSlot, upd_at, Nat.reduceEqDiff, if_true, if_false, popIf, true_implies, false_implies, Bool.true_eq_false, Bool.false_eq_true, reduceCtorEq, true_and, and_true, markPV, g20_0]
   refine hM _ _ ?_
   clear hM M
   exact pops_done (hJ11 _ _ s3 (wk_same (wk_any ((wk_any ((wk_any (Wk.refl _ _))))))))
  ·skip
   intro g20_0 J11 hJ11
   simp only [List.take_succ_cons, List.take_zero]
   simp only [anyAt_cons, anyAt_nil] at hJ11
   refine pops_off (b := true) rfl rfl (by simp only [upd_at, Nat.reduceEqDiff, if_true, if_false, markPV, g20_0]) (by decide) ?_
   refine pops_off (b := true) rfl rfl (by simp only [upd_at, Nat.reduceEqDiff, if_true, if_false, markPV, g20_0]) (by decide) ?_
   refine pops_off (b := true) rfl rfl (by simp only [upd_at, Nat.reduceEqDiff, if_true, if_false, markPV, g20_0]) (by decide) ?_
   refine pops_to rfl fun M hM => ?_
   simp only [pop, St.eval, constSlot, upd_at, Nat.reduceEqDiff, if_true, if_false, popIf, true_implies, false_implies, Bool.true_eq_false, Bool.false_eq_true, reduceCtorEq, true_and, and_true, markPV, g20_0]
   refine hM _ _ ?_
   clear hM M
   exact pops_done (hJ11 _ _ (Same.refl _) (wk_same (wk_any ((wk_any ((wk_any (Wk.refl _ _))))))))
  simp only [List.drop_succ_cons, List.drop_zero, anyAt_cons, anyAt_nil]
  intro hj11 sj11
  replace sj11 := Same.trans s2 sj11
  refine pops_done (hR10 _ ?_)
  clear hR10 R10
  try simp only [thenK, scopeK]
  refine hN9 _ ?_
  clear hN9 N9
  refine pwp_cond (by simp only [St.eval, upd_at, Nat.reduceEqDiff, if_true, if_false, markPV] <;> rfl) (fun c24 => ?_) (fun c24 => ?_)
  ·skip
   have hs : risesB A = false ∨ risesB B = false := by simpa using c24
   refine pwp_then fun N12 hN12 => ?_
   refine pwp_reg fun R13 hR13 => ?_
   refine pops_mv (.inr rfl) rfl (by simp only [St.eval, constSlot] <;> rfl) ?_
   refine pops_mv (.inr rfl) rfl (by simp only [St.eval, constSlot] <;> rfl) ?_
   refine pops_done (hR13 _ ?_)
   clear hR13 R13
   try simp only [thenK, scopeK]
   refine hN12 _ ?_
   clear hN12 N12
   refine pwp_ret ?_
   simp only [thenK, blockK, scopeK, bodyK]
   clear hN8 N8
   exact ⟨_, rfl, _, _, .refl _ _ _, .val (.slice none 0 0), by rw [chgsR, if_neg hr, if_pos hs], .inl ⟨rfl, by rw [chgsR, if_neg hr, if_pos hs]⟩, sj11⟩
  ·skip
   have hs : ¬ (risesB A = false ∨ risesB B = false) := by simpa using c24
   refine pwp_skip ?_
   try simp only [thenK, scopeK]
   refine hN8 _ ?_
   clear hN8 N8
   refine pwp_then fun N14 hN14 => ?_
   refine pwp_reg fun R15 hR15 => ?_
   refine pops_mv (.inr rfl) rfl (by simp only [St.eval, constSlot] <;> rfl) ?_
   refine pops_done (hR15 _ ?_)
   clear hR15 R15
   try simp only [thenK, scopeK]
   refine hN14 _ ?_
   clear hN14 N14
   refine pwp_then fun N16 hN16 => ?_
   refine pwp_block ?_
   refine pwp_loop (fun k σ => ∃ (l : List MarkG), ∃ (m : List MarkG), ∃ (out : List (Int × List UInt8)), ∃ (sl : Slot), (k = l.length + m.length) ∧ (out ++ mergeC b l m = mergeC b A B) ∧ (∀ x ∈ l, x.path.length ≤ 9223372036854775807) ∧ (∀ x ∈ m, x.path.length ≤ 9223372036854775807) ∧ (out.length + l.length + m.length ≤ A.length + B.length) ∧ (Keeps h σ.hp ∧ RowIs 90 2 h σ.hp sl (out.map chgPV)) ∧ (σ.env 0 = .sv (.one (.ro false 4 (l.map markPV)))) ∧ (σ.env 1 = .sv (.one (.ro false 4 (m.map markPV)))) ∧ (σ.env 2 = .sv (.one (pint b))) ∧ (σ.env 8 = sl)) _ ⟨_, .refl _ _, A, B, [], (.sv (.one (.val (.slice none 0 0)))), rfl, ?_⟩ ?_
   · exact ⟨rfl, hpA, hpB, by simp, ⟨Same.keeps sj11, .nil _ _ _ _⟩, by simp only [upd_at, Nat.reduceEqDiff, if_true, if_false, markPV], by simp only [upd_at, Nat.reduceEqDiff, if_true, if_false, markPV], by simp only [upd_at, Nat.reduceEqDiff, if_true, if_false, markPV], by simp only [upd_at, Nat.reduceEqDiff, if_true, if_false] <;> rfl⟩
   ·rintro k ⟨e, hp0⟩ ⟨l, m, out, sl, hk0, hx0_0, hx0_1, hx0_2, hx0_3, sl0, e0_0, e0_1, e0_2, e0_8⟩
    simp only at sl0 e0_0 e0_1 e0_2 e0_8
    obtain ⟨hK, ho⟩ := sl0
    refine pwp_hpok fun hok0 => ?_
    simp only at hok0
    refine pwp_then fun N17 hN17 => ?_
    refine pwp_then fun N18 hN18 => ?_
    refine pwp_reg fun R19 hR19 => ?_
    refine pops_mv (.inl rfl) rfl (by simp only [St.eval, upd_at, Nat.reduceEqDiff, if_true, if_false, e0_0, e0_1, e0_2, e0_8, markPV] <;> rfl) ?_
    refine pops_to rfl fun M hM => ?_
    simp only [pop, St.eval, constSlot, upd_at, Nat.reduceEqDiff, if_true, if_false, popCall, List.toList_toArray, List.map_cons, List.map_nil, popBuiltin, popLen, lenOfSlot, List.length_map, Tryz.underlying44, eq_self, true_and, and_true, str_list, str_size, str_app, str_cut, str_get, e0_0, e0_1, e0_2, e0_8, markPV, List.length_map]
    refine hM _ _ ?_
    clear hM M
    refine pops_mv (.inl rfl) rfl (by simp only [St.eval, upd_at, Nat.reduceEqDiff, if_true, if_false, e0_0, e0_1, e0_2, e0_8, markPV] <;> rfl) ?_
    refine pops_to rfl fun M hM => ?_
    simp only [pop, St.eval, constSlot, upd_at, Nat.reduceEqDiff, if_true, if_false, popCall, List.toList_toArray, List.map_cons, List.map_nil, popBuiltin, popLen, lenOfSlot, List.length_map, Tryz.underlying44, eq_self, true_and, and_true, str_list, str_size, str_app, str_cut, str_get, e0_0, e0_1, e0_2, e0_8, markPV, List.length_map]
    refine hM _ _ ?_
    clear hM M
    refine pops_to rfl fun M hM => ?_
    simp only [pop, St.eval, constSlot, upd_at, Nat.reduceEqDiff, if_true, if_false, popBin, binK, intK, strK, eqK, eq_self, true_and, and_true, e0_0, e0_1, e0_2, e0_8, markPV]
    refine hM _ _ ?_
    clear hM M
    refine pops_to rfl fun M hM => ?_
    simp only [pop, St.eval, constSlot, upd_at, Nat.reduceEqDiff, if_true, if_false, popBin, binK, intK, strK, eqK, eq_self, true_and, and_true, e0_0, e0_1, e0_2, e0_8, markPV]
    refine hM _ _ ?_
    clear hM M
    refine pops_done (hR19 _ ?_)
    clear hR19 R19
    try simp only [thenK, scopeK]
    refine hN18 _ ?_
    clear hN18 N18
    refine pwp_cond (by simp only [St.eval, upd_at, Nat.reduceEqDiff, if_true, if_false, e0_0, e0_1, e0_2, e0_8, markPV] <;> rfl) (fun c30 => ?_) (fun c30 => ?_)
    ·skip
     have hpos : 0 < l.length + m.length := by have := of_decide_eq_true c30; rw [wrap_i64 (by omega) (by omega)] at this; omega
     refine pwp_skip ?_
     try simp only [thenK, scopeK]
     refine hN17 _ ?_
     clear hN17 N17
     refine pwp_block ?_
     refine pwp_then fun N20 hN20 => ?_
     refine pwp_reg fun R21 hR21 => ?_
     refine pops_mv (.inr rfl) rfl (by simp only [St.eval, constSlot] <;> rfl) ?_
     refine pops_done (hR21 _ ?_)
     clear hR21 R21
     try simp only [thenK, scopeK]
     refine hN20 _ ?_
     clear hN20 N20
     refine pwp_then fun N22 hN22 => ?_
     refine pwp_block ?_
     refine pwp_then fun N23 hN23 => ?_
     refine pwp_reg fun R24 hR24 => ?_
     refine pops_mv (.inl rfl) rfl (by simp only [St.eval, upd_at, Nat.reduceEqDiff, if_true, if_false, e0_0, e0_1, e0_2, e0_8, markPV] <;> rfl) ?_
     refine pops_to rfl fun M hM => ?_
     simp only [pop, St.eval, constSlot, upd_at, Nat.reduceEqDiff, if_true, if_false, popCall, List.toList_toArray, List.map_cons, List.map_nil, popBuiltin, popLen, lenOfSlot, List.length_map, Tryz.underlying44, eq_self, true_and, and_true, str_list, str_size, str_app, str_cut, str_get, e0_0, e0_1, e0_2, e0_8, markPV, List.length_map]
     refine hM _ _ ?_
     clear hM M
     refine pops_to rfl fun M hM => ?_
     simp only [pop, St.eval, constSlot, upd_at, Nat.reduceEqDiff, if_true, if_false, popBin, binK, intK, strK, eqK, Tryz.underlying3, isPtr, eq_self, true_and, and_true, e0_0, e0_1, e0_2, e0_8, markPV]
     refine hM _ _ ?_
     clear hM M
     refine pops_mv (.inr rfl) rfl (by simp only [St.eval, upd_at, Nat.reduceEqDiff, if_true, if_false, e0_0, e0_1, e0_2, e0_8, markPV] <;> rfl) ?_
     refine pops_done (hR24 _ ?_)
     clear hR24 R24
     try simp only [thenK, scopeK]
     refine hN23 _ ?_
     clear hN23 N23
     refine pwp_cond (by simp only [St.eval, upd_at, Nat.reduceEqDiff, if_true, if_false, e0_0, e0_1, e0_2, e0_8, markPV] <;> rfl) (fun c40 => ?_) (fun c40 => ?_)
     ·skip
      have hl0 : l = [] := by simpa using c40
      subst hl0
      obtain ⟨y, m', rfl⟩ : ∃ a r, m = a :: r := List.exists_cons_of_ne_nil (by rintro rfl; simp at hpos)
      have hmL : (y :: m').length = m'.length + 1 := rfl
      have h0L : ([] : List MarkG).length = 0 := rfl
      refine pwp_reg fun R25 hR25 => ?_
      refine pops_mv (.inr rfl) rfl (by simp only [St.eval, constSlot] <;> rfl) ?_
      refine pops_done (hR25 _ ?_)
      clear hR25 R25
      try simp only [blockK, thenK, scopeK]
      try simp only [thenK, scopeK]
      refine hN22 _ ?_
      clear hN22 N22
      refine pwp_then fun N26 hN26 => ?_
      refine pwp_reg fun R27 hR27 => ?_
      refine pops_mv (.inr rfl) rfl (by simp only [St.eval, constSlot] <;> rfl) ?_
      refine pops_mv (.inr rfl) rfl (by simp only [St.eval, constSlot] <;> rfl) ?_
      refine pops_done (hR27 _ ?_)
      clear hR27 R27
      try simp only [thenK, scopeK]
      refine hN26 _ ?_
      clear hN26 N26
      refine pwp_then fun N28 hN28 => ?_
      refine pwp_reg fun R29 hR29 => ?_
      refine pops_mv (.inr rfl) rfl (by simp only [St.eval, constSlot] <;> rfl) ?_
      refine pops_done (hR29 _ ?_)
      clear hR29 R29
      try simp only [thenK, scopeK]
      refine hN28 _ ?_
      clear hN28 N28
      refine pwp_then fun N30 hN30 => ?_
      refine pwp_then fun N31 hN31 => ?_
      refine pwp_reg fun R32 hR32 => ?_
      refine pops_mv (.inl rfl) rfl (by simp only [St.eval, upd_at, Nat.reduceEqDiff, if_true, if_false, e0_0, e0_1, e0_2, e0_8, markPV] <;> rfl) ?_
      refine pops_to rfl fun M hM => ?_
      simp only [pop, St.eval, constSlot, upd_at, Nat.reduceEqDiff, if_true, if_false, popBin, binK, intK, strK, eqK, eq_self, true_and, and_true, e0_0, e0_1, e0_2, e0_8, markPV]
      refine hM _ _ ?_
      clear hM M
      refine pops_done (hR32 _ ?_)
      clear hR32 R32
      try simp only [thenK, scopeK]
      refine hN31 _ ?_
      clear hN31 N31
      refine pwp_cond_false (by simp only [St.eval, upd_at, Nat.reduceEqDiff, if_true, if_false, e0_0, e0_1, e0_2, e0_8, markPV] <;> rfl) ?_
      refine pwp_skip ?_
      try simp only [thenK, scopeK]
      refine hN30 _ ?_
      clear hN30 N30
      refine pwp_then fun N33 hN33 => ?_
      refine pwp_then fun N34 hN34 => ?_
      refine pwp_reg fun R35 hR35 => ?_
      refine pops_mv (.inl rfl) rfl (by simp only [St.eval, upd_at, Nat.reduceEqDiff, if_true, if_false, e0_0, e0_1, e0_2, e0_8, markPV] <;> rfl) ?_
      refine pops_to rfl fun M hM => ?_
      simp only [pop, St.eval, constSlot, upd_at, Nat.reduceEqDiff, if_true, if_false, popBin, binK, intK, strK, eqK, eq_self, true_and, and_true, e0_0, e0_1, e0_2, e0_8, markPV]
      refine hM _ _ ?_
      clear hM M
      refine pops_done (hR35 _ ?_)
      clear hR35 R35
      try simp only [thenK, scopeK]
      refine hN34 _ ?_
      clear hN34 N34
      refine pwp_cond_true (by simp only [St.eval, upd_at, Nat.reduceEqDiff, if_true, if_false, e0_0, e0_1, e0_2, e0_8, markPV] <;> rfl) ?_
      refine pwp_dreg 11 mixed (by decide +kernel) fun R36 hR36 => ?_
      simp only [List.take_succ_cons, List.take_zero, List.drop_succ_cons, List.drop_zero]
      apply lex_to
      · rfl
      ·intro h' s' M hM
       simp only [pop, St.eval, constSlot, upd_at, Nat.reduceEqDiff, if_true, if_false, eq_self, true_and, and_true, str_list, str_size, str_app, str_cut, str_get, e0_0, e0_1, e0_2, e0_8, markPV, s'.1]
       exact hM _ (.refl _)
      apply lex_to
      · rfl
      ·intro h' s' M hM
       simp only [pop, St.eval, constSlot, upd_at, Nat.reduceEqDiff, if_true, if_false, popIndexAddr, Tryz.underlying44, sz86, eq_self, true_and, and_true, str_list, str_size, str_app, str_cut, str_get, e0_0, e0_1, e0_2, e0_8, markPV, s'.1]
       refine ⟨Int.le_refl _, ?_⟩
       exact hM _ (.refl _)
      apply lex_to
      · rfl
      ·intro h' s' M hM
       simp only [pop, St.eval, constSlot, upd_at, Nat.reduceEqDiff, if_true, if_false, eq_self, true_and, and_true, str_list, str_size, str_app, str_cut, str_get, e0_0, e0_1, e0_2, e0_8, markPV, s'.1]
       exact hM _ (.refl _)
      apply lex_to
      · rfl
      ·intro h' s' M hM
       simp only [pop, St.eval, constSlot, upd_at, Nat.reduceEqDiff, if_true, if_false, popIndexAddr, Tryz.underlying44, sz86, eq_self, true_and, and_true, str_list, str_size, str_app, str_cut, str_get, e0_0, e0_1, e0_2, e0_8, markPV, s'.1]
       refine ⟨Int.le_refl _, ?_⟩
       exact hM _ (.refl _)
      apply lex_to
      · rfl
      ·intro h' s' M hM
       simp only [pop, St.eval, constSlot, upd_at, Nat.reduceEqDiff, if_true, if_false, popFieldAddr, fieldOf, List.drop_succ_cons, List.drop_zero, List.getElem?_toArray, List.getElem?_cons_zero, List.getElem?_cons_succ, Tryz.underlying86, sz9, e0_0, e0_1, e0_2, e0_8, markPV, s'.1]
       exact ⟨⟨_, rfl⟩, hM _ (.refl _)⟩
      apply lex_to
      · rfl
      ·intro h' s' M hM
       simp only [pop, St.eval, constSlot, upd_at, Nat.reduceEqDiff, if_true, if_false, popLoad, loadK, isAggD, List.drop_zero, List.getElem?_toArray, List.getElem?_cons_zero, List.getElem?_cons_succ, Bool.false_eq_true, Tryz.underlying9, sz9, eq_self, true_and, and_true, e0_0, e0_1, e0_2, e0_8, markPV, s'.1]
       exact hM _ (.refl _)
      apply lex_to
      · rfl
      ·intro h' s' M hM
       simp only [pop, St.eval, constSlot, upd_at, Nat.reduceEqDiff, if_true, if_false, eq_self, true_and, and_true, str_list, str_size, str_app, str_cut, str_get, e0_0, e0_1, e0_2, e0_8, markPV, s'.1]
       exact hM _ (.refl _)
      apply lex_to
      · rfl
      ·intro h' s' M hM
       simp only [pop, St.eval, constSlot, upd_at, Nat.reduceEqDiff, if_true, if_false, popSlice, boundOf, Option.map_none, Option.map_some, Tryz.underlying44, sz86, eq_self, true_and, and_true, str_list, str_size, str_app, str_cut, str_get, e0_0, e0_1, e0_2, e0_8, markPV, Int.toNat_natCast, List.take_length, show (1 : Int).toNat = 1 from rfl, List.map_cons, List.drop_succ_cons, List.drop_zero, s'.1]
       refine ⟨by decide, by simp only [List.length_cons, List.length_map]; omega, Int.le_refl _, ?_⟩
       exact hM _ (.refl _)
      apply lex_to
      · rfl
      ·intro h' s' M hM
       simp only [pop, St.eval, constSlot, upd_at, Nat.reduceEqDiff, if_true, if_false, eq_self, true_and, and_true, str_list, str_size, str_app, str_cut, str_get, e0_0, e0_1, e0_2, e0_8, markPV, s'.1]
       exact hM _ (.refl _)
      apply lex_to
      · rfl
      ·intro h' s' M hM
       simp only [pop, St.eval, constSlot, upd_at, Nat.reduceEqDiff, if_true, if_false, eq_self, true_and, and_true, str_list, str_size, str_app, str_cut, str_get, e0_0, e0_1, e0_2, e0_8, markPV, s'.1]
       exact hM _ (.refl _)
      apply lex_to
      · rfl
      ·intro h' s' M hM
       simp only [pop, St.eval, constSlot, upd_at, Nat.reduceEqDiff, if_true, if_false, eq_self, true_and, and_true, str_list, str_size, str_app, str_cut, str_get, e0_0, e0_1, e0_2, e0_8, markPV, s'.1]
       exact hM _ (.refl _)
      refine lex_done fun hq sq => ?_
      skip
      refine pops_done (hR36 _ ?_)
      clear hR36 R36
      try simp only [thenK, scopeK]
      refine hN33 _ ?_
      clear hN33 N33
      refine pwp_then fun N37 hN37 => ?_
      refine pwp_reg fun R38 hR38 => ?_
      refine pops_mv (.inl rfl) rfl (by simp only [St.eval, upd_at, Nat.reduceEqDiff, if_true, if_false, e0_0, e0_1, e0_2, e0_8, markPV] <;> rfl) ?_
      refine pops_mv (.inl rfl) rfl (by simp only [St.eval, upd_at, Nat.reduceEqDiff, if_true, if_false, e0_0, e0_1, e0_2, e0_8, markPV] <;> rfl) ?_
      refine pops_mv (.inl rfl) rfl (by simp only [St.eval, upd_at, Nat.reduceEqDiff, if_true, if_false, e0_0, e0_1, e0_2, e0_8, markPV] <;> rfl) ?_
      refine pops_to rfl fun M hM => ?_
      simp only [pop, St.eval, constSlot, upd_at, Nat.reduceEqDiff, if_true, if_false, popCall, List.toList_toArray, List.map_cons, List.map_nil, svs, List.mapM_cons, List.mapM_nil, Option.bind_eq_bind, Option.bind_some, Option.pure_def, List.append_nil, List.cons_append, List.nil_append, str_size, e0_0, e0_1, e0_2, e0_8, markPV]
      first
        | refine PFun.use (changeAB_fun W0 x y b) fun h9 s9 => hM _ _ ?_
        | refine PFun.use (changeA_fun W0 x b) fun h9 s9 => hM _ _ ?_
        | refine PFun.use (changeB_fun W0 y b) fun h9 s9 => hM _ _ ?_
        | refine PFun.use (changeN_fun W0 b) fun h9 s9 => hM _ _ ?_
      replace s9 := Same.trans sq s9
      clear hM M
      refine pops_mv (.inr rfl) rfl (by simp only [St.eval, upd_at, Nat.reduceEqDiff, if_true, if_false, e0_0, e0_1, e0_2, e0_8, markPV] <;> rfl) ?_
      refine pops_done (hR38 _ ?_)
      clear hR38 R38
      try simp only [thenK, scopeK]
      refine hN37 _ ?_
      clear hN37 N37
      refine pwp_then fun N39 hN39 => ?_
      refine pwp_reg fun R40 hR40 => ?_
      refine pops_mv (.inl rfl) rfl (by simp only [St.eval, upd_at, Nat.reduceEqDiff, if_true, if_false, e0_0, e0_1, e0_2, e0_8, markPV] <;> rfl) ?_
      refine pops_to rfl fun M hM => ?_
      simp only [pop, St.eval, constSlot, upd_at, Nat.reduceEqDiff, if_true, if_false, popBin, binK, intK, strK, eqK, Tryz.underlying3, isPtr, eq_self, true_and, and_true, e0_0, e0_1, e0_2, e0_8, markPV]
      refine hM _ _ ?_
      clear hM M
      refine pops_done (hR40 _ ?_)
      clear hR40 R40
      try simp only [thenK, scopeK]
      refine hN39 _ ?_
      clear hN39 N39
      refine pwp_cond_true (by simp only [St.eval, upd_at, Nat.reduceEqDiff, if_true, if_false, e0_0, e0_1, e0_2, e0_8, markPV] <;> rfl) ?_
      refine pwp_reg fun R41 hR41 => ?_
      refine pops_mv (.inl rfl) rfl (by simp only [St.eval, upd_at, Nat.reduceEqDiff, if_true, if_false, e0_0, e0_1, e0_2, e0_8, markPV] <;> rfl) ?_
      refine pops_mv (.inl rfl) rfl (by simp only [St.eval, upd_at, Nat.reduceEqDiff, if_true, if_false, e0_0, e0_1, e0_2, e0_8, markPV] <;> rfl) ?_
      refine pops_mv (.inl rfl) rfl (by simp only [St.eval, upd_at, Nat.reduceEqDiff, if_true, if_false, e0_0, e0_1, e0_2, e0_8, markPV] <;> rfl) ?_
      refine pops_to rfl fun M hM => ?_
      simp only [pop, St.eval, constSlot, upd_at, Nat.reduceEqDiff, if_true, if_false, fillP, slotCells, splice, List.toList_toArray, List.map_cons, List.map_nil, List.length_cons, List.length_nil, Nat.zero_add, Nat.reduceAdd, Nat.reduceLeDiff, List.take_zero, List.take_succ_cons, List.take_nil, List.drop_succ_cons, List.drop_zero, List.drop_nil, List.nil_append, List.cons_append, List.append_nil, and_self, List.getElem?_cons_zero, List.getElem?_cons_succ, List.set_cons_zero, List.set_cons_succ, Option.some.injEq, bd90, eq_self, true_and, and_true, str_list, str_size, str_app, str_cut, str_get, e0_0, e0_1, e0_2, e0_8, markPV]
      refine hM _ _ ?_
      clear hM M
      refine pops_to rfl fun M hM => ?_
      simp only [pop, St.eval, constSlot, upd_at, Nat.reduceEqDiff, if_true, if_false, popBuildSlice, slotCells, List.toList_toArray, List.map_cons, List.map_nil, List.mapM_cons, List.mapM_nil, Option.bind_eq_bind, Option.bind_some, Option.pure_def, Tryz.underlying45, sz90, ze90, by90, eq_self, true_and, and_true, str_list, str_size, str_app, str_cut, str_get, e0_0, e0_1, e0_2, e0_8, markPV]
      refine ⟨by decide, by decide, rfl, rfl, by simp, by decide, rfl, hM _ _ ?_⟩
      clear hM M
      refine pops_to rfl fun M hM => ?_
      simp only [pop, St.eval, constSlot, upd_at, Nat.reduceEqDiff, if_true, if_false, popCall, List.toList_toArray, List.map_cons, List.map_nil, popBuiltin, eq_self, true_and, and_true, str_list, str_size, str_app, str_cut, str_get, e0_0, e0_1, e0_2, e0_8, markPV]
      first
        | refine row_app (ys := [chgPV (3, x.path)]) hb Tryz.underlying45 sz90 by90 ze90 rfl (by decide) (ho.same s9) (hK.trans (Same.keeps s9)) rfl (.inr rfl) ⟨by simp only [List.length_map, List.length_cons, List.length_nil]; omega, by simp only [List.length_map, List.length_cons, List.length_nil]; omega⟩ fun sl2 hp2 ho2 hk2 => hM _ _ ?_
        | refine row_app (ys := [chgPV (1, y.path)]) hb Tryz.underlying45 sz90 by90 ze90 rfl (by decide) (ho.same s9) (hK.trans (Same.keeps s9)) rfl (.inr rfl) ⟨by simp only [List.length_map, List.length_cons, List.length_nil]; omega, by simp only [List.length_map, List.length_cons, List.length_nil]; omega⟩ fun sl2 hp2 ho2 hk2 => hM _ _ ?_
        | refine row_app (ys := [chgPV ((if differB x y b then 2 else 0), y.path)]) hb Tryz.underlying45 sz90 by90 ze90 rfl (by decide) (ho.same s9) (hK.trans (Same.keeps s9)) rfl (.inr rfl) ⟨by simp only [List.length_map, List.length_cons, List.length_nil]; omega, by simp only [List.length_map, List.length_cons, List.length_nil]; omega⟩ fun sl2 hp2 ho2 hk2 => hM _ _ ?_
      clear hM M
      refine pops_mv (.inr rfl) rfl (by simp only [St.eval, upd_at, Nat.reduceEqDiff, if_true, if_false, e0_0, e0_1, e0_2, e0_8, markPV] <;> rfl) ?_
      refine pops_done (hR41 _ ?_)
      clear hR41 R41
      try simp only [blockK, thenK, scopeK]
      try simp only [thenK, scopeK]
      exact ⟨_, by omega, _, .refl _ _, [], m', (out ++ [(1, y.path)]), sl2, rfl, by rw [← hx0_0, merge_b b y _ m' (.inl rfl), List.append_assoc]; rfl, hx0_1, fun z hz => hx0_2 z (by simp [hz]), by simp only [List.length_append, List.length_cons, List.length_nil] at *; omega, ⟨hk2, by rw [List.map_append]; first | exact ho2 | (rw [if_pos hd] at ho2; exact ho2)⟩, by first | (simp only [upd_at, Nat.reduceEqDiff, if_true, if_false, e0_0]; done) | (simp only [upd_at, Nat.reduceEqDiff, if_true, if_false]; rfl) | (simp only [upd_at, Nat.reduceEqDiff, if_true, if_false, e0_0]; rfl), by first | (simp only [upd_at, Nat.reduceEqDiff, if_true, if_false, e0_1]; done) | (simp only [upd_at, Nat.reduceEqDiff, if_true, if_false]; rfl) | (simp only [upd_at, Nat.reduceEqDiff, if_true, if_false, e0_1]; rfl), by simp only [upd_at, Nat.reduceEqDiff, if_true, if_false, e0_0, e0_1, e0_2, e0_8, markPV], by simp only [upd_at, Nat.reduceEqDiff, if_true, if_false, e0_0, e0_1, e0_2, e0_8, markPV]⟩
     ·skip
      have hl1 : l ≠ [] := by simpa using c40
      obtain ⟨x, l', rfl⟩ := List.exists_cons_of_ne_nil hl1
      have hlL : (x :: l').length = l'.length + 1 := rfl
      refine pwp_then fun N42 hN42 => ?_
      refine pwp_reg fun R43 hR43 => ?_
      refine pops_mv (.inl rfl) rfl (by simp only [St.eval, upd_at, Nat.reduceEqDiff, if_true, if_false, e0_0, e0_1, e0_2, e0_8, markPV] <;> rfl) ?_
      refine pops_to rfl fun M hM => ?_
      simp only [pop, St.eval, constSlot, upd_at, Nat.reduceEqDiff, if_true, if_false, popCall, List.toList_toArray, List.map_cons, List.map_nil, popBuiltin, popLen, lenOfSlot, List.length_map, Tryz.underlying44, eq_self, true_and, and_true, str_list, str_size, str_app, str_cut, str_get, e0_0, e0_1, e0_2, e0_8, markPV, List.length_map]
      refine hM _ _ ?_
      clear hM M
      refine pops_to rfl fun M hM => ?_
      simp only [pop, St.eval, constSlot, upd_at, Nat.reduceEqDiff, if_true, if_false, popBin, binK, intK, strK, eqK, Tryz.underlying3, isPtr, eq_self, true_and, and_true, e0_0, e0_1, e0_2, e0_8, markPV]
      refine hM _ _ ?_
      clear hM M
      refine pops_mv (.inr rfl) rfl (by simp only [St.eval, upd_at, Nat.reduceEqDiff, if_true, if_false, e0_0, e0_1, e0_2, e0_8, markPV] <;> rfl) ?_
      refine pops_done (hR43 _ ?_)
      clear hR43 R43
      try simp only [thenK, scopeK]
      refine hN42 _ ?_
      clear hN42 N42
      refine pwp_cond (by simp only [St.eval, upd_at, Nat.reduceEqDiff, if_true, if_false, e0_0, e0_1, e0_2, e0_8, markPV] <;> rfl) (fun c44 => ?_) (fun c44 => ?_)
      ·skip
       have hm0 : m = [] := by simpa using c44
       subst hm0
       have h0L : ([] : List MarkG).length = 0 := rfl
       refine pwp_reg fun R44 hR44 => ?_
       refine pops_mv (.inr rfl) rfl (by simp only [St.eval, constSlot] <;> rfl) ?_
       refine pops_done (hR44 _ ?_)
       clear hR44 R44
       try simp only [blockK, thenK, scopeK]
       try simp only [thenK, scopeK]
       refine hN22 _ ?_
       clear hN22 N22
       refine pwp_then fun N45 hN45 => ?_
       refine pwp_reg fun R46 hR46 => ?_
       refine pops_mv (.inr rfl) rfl (by simp only [St.eval, constSlot] <;> rfl) ?_
       refine pops_mv (.inr rfl) rfl (by simp only [St.eval, constSlot] <;> rfl) ?_
       refine pops_done (hR46 _ ?_)
       clear hR46 R46
       try simp only [thenK, scopeK]
       refine hN45 _ ?_
       clear hN45 N45
       refine pwp_then fun N47 hN47 => ?_
       refine pwp_reg fun R48 hR48 => ?_
       refine pops_mv (.inr rfl) rfl (by simp only [St.eval, constSlot] <;> rfl) ?_
       refine pops_done (hR48 _ ?_)
       clear hR48 R48
       try simp only [thenK, scopeK]
       refine hN47 _ ?_
       clear hN47 N47
       refine pwp_then fun N49 hN49 => ?_
       refine pwp_then fun N50 hN50 => ?_
       refine pwp_reg fun R51 hR51 => ?_
       refine pops_mv (.inl rfl) rfl (by simp only [St.eval, upd_at, Nat.reduceEqDiff, if_true, if_false, e0_0, e0_1, e0_2, e0_8, markPV] <;> rfl) ?_
       refine pops_to rfl fun M hM => ?_
       simp only [pop, St.eval, constSlot, upd_at, Nat.reduceEqDiff, if_true, if_false, popBin, binK, intK, strK, eqK, eq_self, true_and, and_true, e0_0, e0_1, e0_2, e0_8, markPV]
       refine hM _ _ ?_
       clear hM M
       refine pops_done (hR51 _ ?_)
       clear hR51 R51
       try simp only [thenK, scopeK]
       refine hN50 _ ?_
       clear hN50 N50
       refine pwp_cond_true (by simp only [St.eval, upd_at, Nat.reduceEqDiff, if_true, if_false, e0_0, e0_1, e0_2, e0_8, markPV] <;> rfl) ?_
       refine pwp_dreg 11 mixed (by decide +kernel) fun R52 hR52 => ?_
       simp only [List.take_succ_cons, List.take_zero, List.drop_succ_cons, List.drop_zero]
       apply lex_to
       · rfl
       ·intro h' s' M hM
        simp only [pop, St.eval, constSlot, upd_at, Nat.reduceEqDiff, if_true, if_false, eq_self, true_and, and_true, str_list, str_size, str_app, str_cut, str_get, e0_0, e0_1, e0_2, e0_8, markPV, s'.1]
        exact hM _ (.refl _)
       apply lex_to
       · rfl
       ·intro h' s' M hM
        simp only [pop, St.eval, constSlot, upd_at, Nat.reduceEqDiff, if_true, if_false, popIndexAddr, Tryz.underlying44, sz86, eq_self, true_and, and_true, str_list, str_size, str_app, str_cut, str_get, e0_0, e0_1, e0_2, e0_8, markPV, s'.1]
        refine ⟨Int.le_refl _, ?_⟩
        exact hM _ (.refl _)
       apply lex_to
       · rfl
       ·intro h' s' M hM
        simp only [pop, St.eval, constSlot, upd_at, Nat.reduceEqDiff, if_true, if_false, eq_self, true_and, and_true, str_list, str_size, str_app, str_cut, str_get, e0_0, e0_1, e0_2, e0_8, markPV, s'.1]
        exact hM _ (.refl _)
       apply lex_to
       · rfl
       ·intro h' s' M hM
        simp only [pop, St.eval, constSlot, upd_at, Nat.reduceEqDiff, if_true, if_false, popIndexAddr, Tryz.underlying44, sz86, eq_self, true_and, and_true, str_list, str_size, str_app, str_cut, str_get, e0_0, e0_1, e0_2, e0_8, markPV, s'.1]
        refine ⟨Int.le_refl _, ?_⟩
        exact hM _ (.refl _)
       apply lex_to
       · rfl
       ·intro h' s' M hM
        simp only [pop, St.eval, constSlot, upd_at, Nat.reduceEqDiff, if_true, if_false, popFieldAddr, fieldOf, List.drop_succ_cons, List.drop_zero, List.getElem?_toArray, List.getElem?_cons_zero, List.getElem?_cons_succ, Tryz.underlying86, sz9, e0_0, e0_1, e0_2, e0_8, markPV, s'.1]
        exact ⟨⟨_, rfl⟩, hM _ (.refl _)⟩
       apply lex_to
       · rfl
       ·intro h' s' M hM
        simp only [pop, St.eval, constSlot, upd_at, Nat.reduceEqDiff, if_true, if_false, popLoad, loadK, isAggD, List.drop_zero, List.getElem?_toArray, List.getElem?_cons_zero, List.getElem?_cons_succ, Bool.false_eq_true, Tryz.underlying9, sz9, eq_self, true_and, and_true, e0_0, e0_1, e0_2, e0_8, markPV, s'.1]
        exact hM _ (.refl _)
       apply lex_to
       · rfl
       ·intro h' s' M hM
        simp only [pop, St.eval, constSlot, upd_at, Nat.reduceEqDiff, if_true, if_false, eq_self, true_and, and_true, str_list, str_size, str_app, str_cut, str_get, e0_0, e0_1, e0_2, e0_8, markPV, s'.1]
        exact hM _ (.refl _)
       apply lex_to
       · rfl
       ·intro h' s' M hM
        simp only [pop, St.eval, constSlot, upd_at, Nat.reduceEqDiff, if_true, if_false, popSlice, boundOf, Option.map_none, Option.map_some, Tryz.underlying44, sz86, eq_self, true_and, and_true, str_list, str_size, str_app, str_cut, str_get, e0_0, e0_1, e0_2, e0_8, markPV, Int.toNat_natCast, List.take_length, show (1 : Int).toNat = 1 from rfl, List.map_cons, List.drop_succ_cons, List.drop_zero, s'.1]
        refine ⟨by decide, by simp only [List.length_cons, List.length_map]; omega, Int.le_refl _, ?_⟩
        exact hM _ (.refl _)
       apply lex_to
       · rfl
       ·intro h' s' M hM
        simp only [pop, St.eval, constSlot, upd_at, Nat.reduceEqDiff, if_true, if_false, eq_self, true_and, and_true, str_list, str_size, str_app, str_cut, str_get, e0_0, e0_1, e0_2, e0_8, markPV, s'.1]
        exact hM _ (.refl _)
       apply lex_to
       · rfl
       ·intro h' s' M hM
        simp only [pop, St.eval, constSlot, upd_at, Nat.reduceEqDiff, if_true, if_false, eq_self, true_and, and_true, str_list, str_size, str_app, str_cut, str_get, e0_0, e0_1, e0_2, e0_8, markPV, s'.1]
        exact hM _ (.refl _)
       apply lex_to
       · rfl
       ·intro h' s' M hM
        simp only [pop, St.eval, constSlot, upd_at, Nat.reduceEqDiff, if_true, if_false, eq_self, true_and, and_true, str_list, str_size, str_app, str_cut, str_get, e0_0, e0_1, e0_2, e0_8, markPV, s'.1]
        exact hM _ (.refl _)
       refine lex_done fun hq2 sq2 => ?_
       skip
       refine pops_done (hR52 _ ?_)
       clear hR52 R52
       try simp only [thenK, scopeK]
       refine hN49 _ ?_
       clear hN49 N49
       refine pwp_then fun N53 hN53 => ?_
       refine pwp_then fun N54 hN54 => ?_
       refine pwp_reg fun R55 hR55 => ?_
       refine pops_mv (.inl rfl) rfl (by simp only [St.eval, upd_at, Nat.reduceEqDiff, if_true, if_false, e0_0, e0_1, e0_2, e0_8, markPV] <;> rfl) ?_
       refine pops_to rfl fun M hM => ?_
       simp only [pop, St.eval, constSlot, upd_at, Nat.reduceEqDiff, if_true, if_false, popBin, binK, intK, strK, eqK, eq_self, true_and, and_true, e0_0, e0_1, e0_2, e0_8, markPV]
       refine hM _ _ ?_
       clear hM M
       refine pops_done (hR55 _ ?_)
       clear hR55 R55
       try simp only [thenK, scopeK]
       refine hN54 _ ?_
       clear hN54 N54
       refine pwp_cond_false (by simp only [St.eval, upd_at, Nat.reduceEqDiff, if_true, if_false, e0_0, e0_1, e0_2, e0_8, markPV] <;> rfl) ?_
       refine pwp_skip ?_
       try simp only [thenK, scopeK]
       refine hN53 _ ?_
       clear hN53 N53
       refine pwp_then fun N56 hN56 => ?_
       refine pwp_reg fun R57 hR57 => ?_
       refine pops_mv (.inl rfl) rfl (by simp only [St.eval, upd_at, Nat.reduceEqDiff, if_true, if_false, e0_0, e0_1, e0_2, e0_8, markPV] <;> rfl) ?_
       refine pops_mv (.inl rfl) rfl (by simp only [St.eval, upd_at, Nat.reduceEqDiff, if_true, if_false, e0_0, e0_1, e0_2, e0_8, markPV] <;> rfl) ?_
       refine pops_mv (.inl rfl) rfl (by simp only [St.eval, upd_at, Nat.reduceEqDiff, if_true, if_false, e0_0, e0_1, e0_2, e0_8, markPV] <;> rfl) ?_
       refine pops_to rfl fun M hM => ?_
       simp only [pop, St.eval, constSlot, upd_at, Nat.reduceEqDiff, if_true, if_false, popCall, List.toList_toArray, List.map_cons, List.map_nil, svs, List.mapM_cons, List.mapM_nil, Option.bind_eq_bind, Option.bind_some, Option.pure_def, List.append_nil, List.cons_append, List.nil_append, str_size, e0_0, e0_1, e0_2, e0_8, markPV]
       first
         | refine PFun.use (changeAB_fun W0 x y b) fun h9 s9 => hM _ _ ?_
         | refine PFun.use (changeA_fun W0 x b) fun h9 s9 => hM _ _ ?_
         | refine PFun.use (changeB_fun W0 y b) fun h9 s9 => hM _ _ ?_
         | refine PFun.use (changeN_fun W0 b) fun h9 s9 => hM _ _ ?_
       replace s9 := Same.trans sq2 s9
       clear hM M
       refine pops_mv (.inr rfl) rfl (by simp only [St.eval, upd_at, Nat.reduceEqDiff, if_true, if_false, e0_0, e0_1, e0_2, e0_8, markPV] <;> rfl) ?_
       refine pops_done (hR57 _ ?_)
       clear hR57 R57
       try simp only [thenK, scopeK]
       refine hN56 _ ?_
       clear hN56 N56
       refine pwp_then fun N58 hN58 => ?_
       refine pwp_reg fun R59 hR59 => ?_
       refine pops_mv (.inl rfl) rfl (by simp only [St.eval, upd_at, Nat.reduceEqDiff, if_true, if_false, e0_0, e0_1, e0_2, e0_8, markPV] <;> rfl) ?_
       refine pops_to rfl fun M hM => ?_
       simp only [pop, St.eval, constSlot, upd_at, Nat.reduceEqDiff, if_true, if_false, popBin, binK, intK, strK, eqK, Tryz.underlying3, isPtr, eq_self, true_and, and_true, e0_0, e0_1, e0_2, e0_8, markPV]
       refine hM _ _ ?_
       clear hM M
       refine pops_done (hR59 _ ?_)
       clear hR59 R59
       try simp only [thenK, scopeK]
       refine hN58 _ ?_
       clear hN58 N58
       refine pwp_cond_true (by simp only [St.eval, upd_at, Nat.reduceEqDiff, if_true, if_false, e0_0, e0_1, e0_2, e0_8, markPV] <;> rfl) ?_
       refine pwp_reg fun R60 hR60 => ?_
       refine pops_mv (.inl rfl) rfl (by simp only [St.eval, upd_at, Nat.reduceEqDiff, if_true, if_false, e0_0, e0_1, e0_2, e0_8, markPV] <;> rfl) ?_
       refine pops_mv (.inl rfl) rfl (by simp only [St.eval, upd_at, Nat.reduceEqDiff, if_true, if_false, e0_0, e0_1, e0_2, e0_8, markPV] <;> rfl) ?_
       refine pops_mv (.inl rfl) rfl (by simp only [St.eval, upd_at, Nat.reduceEqDiff, if_true, if_false, e0_0, e0_1, e0_2, e0_8, markPV] <;> rfl) ?_
       refine pops_to rfl fun M hM => ?_
       simp only [pop, St.eval, constSlot, upd_at, Nat.reduceEqDiff, if_true, if_false, fillP, slotCells, splice, List.toList_toArray, List.map_cons, List.map_nil, List.length_cons, List.length_nil, Nat.zero_add, Nat.reduceAdd, Nat.reduceLeDiff, List.take_zero, List.take_succ_cons, List.take_nil, List.drop_succ_cons, List.drop_zero, List.drop_nil, List.nil_append, List.cons_append, List.append_nil, and_self, List.getElem?_cons_zero, List.getElem?_cons_succ, List.set_cons_zero, List.set_cons_succ, Option.some.injEq, bd90, eq_self, true_and, and_true, str_list, str_size, str_app, str_cut, str_get, e0_0, e0_1, e0_2, e0_8, markPV]
       refine hM _ _ ?_
       clear hM M
       refine pops_to rfl fun M hM => ?_
       simp only [pop, St.eval, constSlot, upd_at, Nat.reduceEqDiff, if_true, if_false, popBuildSlice, slotCells, List.toList_toArray, List.map_cons, List.map_nil, List.mapM_cons, List.mapM_nil, Option.bind_eq_bind, Option.bind_some, Option.pure_def, Tryz.underlying45, sz90, ze90, by90, eq_self, true_and, and_true, str_list, str_size, str_app, str_cut, str_get, e0_0, e0_1, e0_2, e0_8, markPV]
       refine ⟨by decide, by decide, rfl, rfl, by simp, by decide, rfl, hM _ _ ?_⟩
       clear hM M
       refine pops_to rfl fun M hM => ?_
       simp only [pop, St.eval, constSlot, upd_at, Nat.reduceEqDiff, if_true, if_false, popCall, List.toList_toArray, List.map_cons, List.map_nil, popBuiltin, eq_self, true_and, and_true, str_list, str_size, str_app, str_cut, str_get, e0_0, e0_1, e0_2, e0_8, markPV]
       first
         | refine row_app (ys := [chgPV (3, x.path)]) hb Tryz.underlying45 sz90 by90 ze90 rfl (by decide) (ho.same s9) (hK.trans (Same.keeps s9)) rfl (.inr rfl) ⟨by simp only [List.length_map, List.length_cons, List.length_nil]; omega, by simp only [List.length_map, List.length_cons, List.length_nil]; omega⟩ fun sl2 hp2 ho2 hk2 => hM _ _ ?_
         | refine row_app (ys := [chgPV (1, y.path)]) hb Tryz.underlying45 sz90 by90 ze90 rfl (by decide) (ho.same s9) (hK.trans (Same.keeps s9)) rfl (.inr rfl) ⟨by simp only [List.length_map, List.length_cons, List.length_nil]; omega, by simp only [List.length_map, List.length_cons, List.length_nil]; omega⟩ fun sl2 hp2 ho2 hk2 => hM _ _ ?_
         | refine row_app (ys := [chgPV ((if differB x y b then 2 else 0), y.path)]) hb Tryz.underlying45 sz90 by90 ze90 rfl (by decide) (ho.same s9) (hK.trans (Same.keeps s9)) rfl (.inr rfl) ⟨by simp only [List.length_map, List.length_cons, List.length_nil]; omega, by simp only [List.length_map, List.length_cons, List.length_nil]; omega⟩ fun sl2 hp2 ho2 hk2 => hM _ _ ?_
       clear hM M
       refine pops_mv (.inr rfl) rfl (by simp only [St.eval, upd_at, Nat.reduceEqDiff, if_true, if_false, e0_0, e0_1, e0_2, e0_8, markPV] <;> rfl) ?_
       refine pops_done (hR60 _ ?_)
       clear hR60 R60
       try simp only [blockK, thenK, scopeK]
       try simp only [thenK, scopeK]
       exact ⟨_, by omega, _, .refl _ _, l', [], (out ++ [(3, x.path)]), sl2, rfl, by rw [← hx0_0, merge_a b x l' _ (.inl rfl), List.append_assoc]; rfl, fun z hz => hx0_1 z (by simp [hz]), hx0_2, by simp only [List.length_append, List.length_cons, List.length_nil] at *; omega, ⟨hk2, by rw [List.map_append]; first | exact ho2 | (rw [if_pos hd] at ho2; exact ho2)⟩, by first | (simp only [upd_at, Nat.reduceEqDiff, if_true, if_false, e0_0]; done) | (simp only [upd_at, Nat.reduceEqDiff, if_true, if_false]; rfl) | (simp only [upd_at, Nat.reduceEqDiff, if_true, if_false, e0_0]; rfl), by first | (simp only [upd_at, Nat.reduceEqDiff, if_true, if_false, e0_1]; done) | (simp only [upd_at, Nat.reduceEqDiff, if_true, if_false]; rfl) | (simp only [upd_at, Nat.reduceEqDiff, if_true, if_false, e0_1]; rfl), by simp only [upd_at, Nat.reduceEqDiff, if_true, if_false, e0_0, e0_1, e0_2, e0_8, markPV], by simp only [upd_at, Nat.reduceEqDiff, if_true, if_false, e0_0, e0_1, e0_2, e0_8, markPV]⟩
      ·skip
       have hm1 : m ≠ [] := by simpa using c44
       obtain ⟨y, m', rfl⟩ := List.exists_cons_of_ne_nil hm1
       have hmL : (y :: m').length = m'.length + 1 := rfl
       refine pwp_dreg 10 mixed (by decide +kernel) fun R61 hR61 => ?_
       simp only [List.take_succ_cons, List.take_zero, List.drop_succ_cons, List.drop_zero]
       apply lex_to
       · rfl
       ·intro h' s' M hM
        simp only [pop, St.eval, constSlot, upd_at, Nat.reduceEqDiff, if_true, if_false, eq_self, true_and, and_true, str_list, str_size, str_app, str_cut, str_get, e0_0, e0_1, e0_2, e0_8, markPV, s'.1]
        exact hM _ (.refl _)
       apply lex_to
       · rfl
       ·intro h' s' M hM
        simp only [pop, St.eval, constSlot, upd_at, Nat.reduceEqDiff, if_true, if_false, popIndexAddr, Tryz.underlying44, sz86, eq_self, true_and, and_true, str_list, str_size, str_app, str_cut, str_get, e0_0, e0_1, e0_2, e0_8, markPV, s'.1]
        refine ⟨Int.le_refl _, ?_⟩
        exact hM _ (.refl _)
       apply lex_to
       · rfl
       ·intro h' s' M hM
        simp only [pop, St.eval, constSlot, upd_at, Nat.reduceEqDiff, if_true, if_false, popFieldAddr, fieldOf, List.drop_succ_cons, List.drop_zero, List.getElem?_toArray, List.getElem?_cons_zero, List.getElem?_cons_succ, Tryz.underlying86, sz9, e0_0, e0_1, e0_2, e0_8, markPV, s'.1]
        exact ⟨⟨_, rfl⟩, hM _ (.refl _)⟩
       apply lex_to
       · rfl
       ·intro h' s' M hM
        simp only [pop, St.eval, constSlot, upd_at, Nat.reduceEqDiff, if_true, if_false, popLoad, loadK, isAggD, List.drop_zero, List.getElem?_toArray, List.getElem?_cons_zero, List.getElem?_cons_succ, Bool.false_eq_true, Tryz.underlying9, sz9, eq_self, true_and, and_true, e0_0, e0_1, e0_2, e0_8, markPV, s'.1]
        exact hM _ (.refl _)
       apply lex_to
       · rfl
       ·intro h' s' M hM
        simp only [pop, St.eval, constSlot, upd_at, Nat.reduceEqDiff, if_true, if_false, eq_self, true_and, and_true, str_list, str_size, str_app, str_cut, str_get, e0_0, e0_1, e0_2, e0_8, markPV, s'.1]
        exact hM _ (.refl _)
       apply lex_to
       · rfl
       ·intro h' s' M hM
        simp only [pop, St.eval, constSlot, upd_at, Nat.reduceEqDiff, if_true, if_false, popIndexAddr, Tryz.underlying44, sz86, eq_self, true_and, and_true, str_list, str_size, str_app, str_cut, str_get, e0_0, e0_1, e0_2, e0_8, markPV, s'.1]
        refine ⟨Int.le_refl _, ?_⟩
        exact hM _ (.refl _)
       apply lex_to
       · rfl
       ·intro h' s' M hM
        simp only [pop, St.eval, constSlot, upd_at, Nat.reduceEqDiff, if_true, if_false, popFieldAddr, fieldOf, List.drop_succ_cons, List.drop_zero, List.getElem?_toArray, List.getElem?_cons_zero, List.getElem?_cons_succ, Tryz.underlying86, sz9, e0_0, e0_1, e0_2, e0_8, markPV, s'.1]
        exact ⟨⟨_, rfl⟩, hM _ (.refl _)⟩
       apply lex_to
       · rfl
       ·intro h' s' M hM
        simp only [pop, St.eval, constSlot, upd_at, Nat.reduceEqDiff, if_true, if_false, popLoad, loadK, isAggD, List.drop_zero, List.getElem?_toArray, List.getElem?_cons_zero, List.getElem?_cons_succ, Bool.false_eq_true, Tryz.underlying9, sz9, eq_self, true_and, and_true, e0_0, e0_1, e0_2, e0_8, markPV, s'.1]
        exact hM _ (.refl _)
       apply lex_to
       · rfl
       ·intro h' s' M hM
        simp only [pop, St.eval, constSlot, upd_at, Nat.reduceEqDiff, if_true, if_false, popCall, List.toList_toArray, List.map_cons, List.map_nil, svs, List.mapM_cons, List.mapM_nil, Option.bind_eq_bind, Option.bind_some, Option.pure_def, List.append_nil, List.cons_append, List.nil_append, str_size, e0_0, e0_1, e0_2, e0_8, markPV, s'.1]
        refine PFun.use (compare_fun W0 x.path y.path (hx0_1 x (by simp)) (hx0_2 y (by simp))) fun hp s => hM _ s
       apply lex_to
       · rfl
       ·intro h' s' M hM
        simp only [pop, St.eval, constSlot, upd_at, Nat.reduceEqDiff, if_true, if_false, eq_self, true_and, and_true, str_list, str_size, str_app, str_cut, str_get, e0_0, e0_1, e0_2, e0_8, markPV, s'.1]
        exact hM _ (.refl _)
       refine lex_done fun hq3 sq3 => ?_
       skip
       refine pops_done (hR61 _ ?_)
       clear hR61 R61
       try simp only [blockK, thenK, scopeK]
       try simp only [thenK, scopeK]
       refine hN22 _ ?_
       clear hN22 N22
       refine pwp_then fun N62 hN62 => ?_
       refine pwp_reg fun R63 hR63 => ?_
       refine pops_mv (.inr rfl) rfl (by simp only [St.eval, constSlot] <;> rfl) ?_
       refine pops_mv (.inr rfl) rfl (by simp only [St.eval, constSlot] <;> rfl) ?_
       refine pops_done (hR63 _ ?_)
       clear hR63 R63
       try simp only [thenK, scopeK]
       refine hN62 _ ?_
       clear hN62 N62
       refine pwp_then fun N64 hN64 => ?_
       refine pwp_reg fun R65 hR65 => ?_
       refine pops_mv (.inr rfl) rfl (by simp only [St.eval, constSlot] <;> rfl) ?_
       refine pops_done (hR65 _ ?_)
       clear hR65 R65
       try simp only [thenK, scopeK]
       refine hN64 _ ?_
       clear hN64 N64
       refine pwp_then fun N66 hN66 => ?_
       refine pwp_then fun N67 hN67 => ?_
       refine pwp_reg fun R68 hR68 => ?_
       refine pops_mv (.inl rfl) rfl (by simp only [St.eval, upd_at, Nat.reduceEqDiff, if_true, if_false, e0_0, e0_1, e0_2, e0_8, markPV] <;> rfl) ?_
       refine pops_to rfl fun M hM => ?_
       simp only [pop, St.eval, constSlot, upd_at, Nat.reduceEqDiff, if_true, if_false, popBin, binK, intK, strK, eqK, eq_self, true_and, and_true, e0_0, e0_1, e0_2, e0_8, markPV]
       refine hM _ _ ?_
       clear hM M
       refine pops_done (hR68 _ ?_)
       clear hR68 R68
       try simp only [thenK, scopeK]
       refine hN67 _ ?_
       clear hN67 N67
       refine pwp_cond (by simp only [St.eval, upd_at, Nat.reduceEqDiff, if_true, if_false, e0_0, e0_1, e0_2, e0_8, markPV] <;> rfl) (fun c49 => ?_) (fun c49 => ?_)
       ·skip
        have hle := of_decide_eq_true c49
        refine pwp_dreg 11 mixed (by decide +kernel) fun R69 hR69 => ?_
        simp only [List.take_succ_cons, List.take_zero, List.drop_succ_cons, List.drop_zero]
        apply lex_to
        · rfl
        ·intro h' s' M hM
         simp only [pop, St.eval, constSlot, upd_at, Nat.reduceEqDiff, if_true, if_false, eq_self, true_and, and_true, str_list, str_size, str_app, str_cut, str_get, e0_0, e0_1, e0_2, e0_8, markPV, s'.1]
         exact hM _ (.refl _)
        apply lex_to
        · rfl
        ·intro h' s' M hM
         simp only [pop, St.eval, constSlot, upd_at, Nat.reduceEqDiff, if_true, if_false, popIndexAddr, Tryz.underlying44, sz86, eq_self, true_and, and_true, str_list, str_size, str_app, str_cut, str_get, e0_0, e0_1, e0_2, e0_8, markPV, s'.1]
         refine ⟨Int.le_refl _, ?_⟩
         exact hM _ (.refl _)
        apply lex_to
        · rfl
        ·intro h' s' M hM
         simp only [pop, St.eval, constSlot, upd_at, Nat.reduceEqDiff, if_true, if_false, eq_self, true_and, and_true, str_list, str_size, str_app, str_cut, str_get, e0_0, e0_1, e0_2, e0_8, markPV, s'.1]
         exact hM _ (.refl _)
        apply lex_to
        · rfl
        ·intro h' s' M hM
         simp only [pop, St.eval, constSlot, upd_at, Nat.reduceEqDiff, if_true, if_false, popIndexAddr, Tryz.underlying44, sz86, eq_self, true_and, and_true, str_list, str_size, str_app, str_cut, str_get, e0_0, e0_1, e0_2, e0_8, markPV, s'.1]
         refine ⟨Int.le_refl _, ?_⟩
         exact hM _ (.refl _)
        apply lex_to
        · rfl
        ·intro h' s' M hM
         simp only [pop, St.eval, constSlot, upd_at, Nat.reduceEqDiff, if_true, if_false, popFieldAddr, fieldOf, List.drop_succ_cons, List.drop_zero, List.getElem?_toArray, List.getElem?_cons_zero, List.getElem?_cons_succ, Tryz.underlying86, sz9, e0_0, e0_1, e0_2, e0_8, markPV, s'.1]
         exact ⟨⟨_, rfl⟩, hM _ (.refl _)⟩
        apply lex_to
        · rfl
        ·intro h' s' M hM
         simp only [pop, St.eval, constSlot, upd_at, Nat.reduceEqDiff, if_true, if_false, popLoad, loadK, isAggD, List.drop_zero, List.getElem?_toArray, List.getElem?_cons_zero, List.getElem?_cons_succ, Bool.false_eq_true, Tryz.underlying9, sz9, eq_self, true_and, and_true, e0_0, e0_1, e0_2, e0_8, markPV, s'.1]
         exact hM _ (.refl _)
        apply lex_to
        · rfl
        ·intro h' s' M hM
         simp only [pop, St.eval, constSlot, upd_at, Nat.reduceEqDiff, if_true, if_false, eq_self, true_and, and_true, str_list, str_size, str_app, str_cut, str_get, e0_0, e0_1, e0_2, e0_8, markPV, s'.1]
         exact hM _ (.refl _)
        apply lex_to
        · rfl
        ·intro h' s' M hM
         simp only [pop, St.eval, constSlot, upd_at, Nat.reduceEqDiff, if_true, if_false, popSlice, boundOf, Option.map_none, Option.map_some, Tryz.underlying44, sz86, eq_self, true_and, and_true, str_list, str_size, str_app, str_cut, str_get, e0_0, e0_1, e0_2, e0_8, markPV, Int.toNat_natCast, List.take_length, show (1 : Int).toNat = 1 from rfl, List.map_cons, List.drop_succ_cons, List.drop_zero, s'.1]
         refine ⟨by decide, by simp only [List.length_cons, List.length_map]; omega, Int.le_refl _, ?_⟩
         exact hM _ (.refl _)
        apply lex_to
        · rfl
        ·intro h' s' M hM
         simp only [pop, St.eval, constSlot, upd_at, Nat.reduceEqDiff, if_true, if_false, eq_self, true_and, and_true, str_list, str_size, str_app, str_cut, str_get, e0_0, e0_1, e0_2, e0_8, markPV, s'.1]
         exact hM _ (.refl _)
        apply lex_to
        · rfl
        ·intro h' s' M hM
         simp only [pop, St.eval, constSlot, upd_at, Nat.reduceEqDiff, if_true, if_false, eq_self, true_and, and_true, str_list, str_size, str_app, str_cut, str_get, e0_0, e0_1, e0_2, e0_8, markPV, s'.1]
         exact hM _ (.refl _)
        apply lex_to
        · rfl
        ·intro h' s' M hM
         simp only [pop, St.eval, constSlot, upd_at, Nat.reduceEqDiff, if_true, if_false, eq_self, true_and, and_true, str_list, str_size, str_app, str_cut, str_get, e0_0, e0_1, e0_2, e0_8, markPV, s'.1]
         exact hM _ (.refl _)
        refine lex_done fun hq4 sq4 => ?_
        replace sq4 := Same.trans sq3 sq4
        refine pops_done (hR69 _ ?_)
        clear hR69 R69
        try simp only [thenK, scopeK]
        refine hN66 _ ?_
        clear hN66 N66
        refine pwp_then fun N70 hN70 => ?_
        refine pwp_then fun N71 hN71 => ?_
        refine pwp_reg fun R72 hR72 => ?_
        refine pops_mv (.inl rfl) rfl (by simp only [St.eval, upd_at, Nat.reduceEqDiff, if_true, if_false, e0_0, e0_1, e0_2, e0_8, markPV] <;> rfl) ?_
        refine pops_to rfl fun M hM => ?_
        simp only [pop, St.eval, constSlot, upd_at, Nat.reduceEqDiff, if_true, if_false, popBin, binK, intK, strK, eqK, eq_self, true_and, and_true, e0_0, e0_1, e0_2, e0_8, markPV]
        refine hM _ _ ?_
        clear hM M
        refine pops_done (hR72 _ ?_)
        clear hR72 R72
        try simp only [thenK, scopeK]
        refine hN71 _ ?_
        clear hN71 N71
        refine pwp_cond (by simp only [St.eval, upd_at, Nat.reduceEqDiff, if_true, if_false, e0_0, e0_1, e0_2, e0_8, markPV] <;> rfl) (fun c59 => ?_) (fun c59 => ?_)
        ·skip
         first
           | have hz : ordR x.path y.path = 0 := by have := of_decide_eq_true c59; omega
           | have hz : 0 < ordR x.path y.path := by have := of_decide_eq_true c59; omega
         refine pwp_dreg 11 mixed (by decide +kernel) fun R73 hR73 => ?_
         simp only [List.take_succ_cons, List.take_zero, List.drop_succ_cons, List.drop_zero]
         apply lex_to
         · rfl
         ·intro h' s' M hM
          simp only [pop, St.eval, constSlot, upd_at, Nat.reduceEqDiff, if_true, if_false, eq_self, true_and, and_true, str_list, str_size, str_app, str_cut, str_get, e0_0, e0_1, e0_2, e0_8, markPV, s'.1]
          exact hM _ (.refl _)
         apply lex_to
         · rfl
         ·intro h' s' M hM
          simp only [pop, St.eval, constSlot, upd_at, Nat.reduceEqDiff, if_true, if_false, popIndexAddr, Tryz.underlying44, sz86, eq_self, true_and, and_true, str_list, str_size, str_app, str_cut, str_get, e0_0, e0_1, e0_2, e0_8, markPV, s'.1]
          refine ⟨Int.le_refl _, ?_⟩
          exact hM _ (.refl _)
         apply lex_to
         · rfl
         ·intro h' s' M hM
          simp only [pop, St.eval, constSlot, upd_at, Nat.reduceEqDiff, if_true, if_false, eq_self, true_and, and_true, str_list, str_size, str_app, str_cut, str_get, e0_0, e0_1, e0_2, e0_8, markPV, s'.1]
          exact hM _ (.refl _)
         apply lex_to
         · rfl
         ·intro h' s' M hM
          simp only [pop, St.eval, constSlot, upd_at, Nat.reduceEqDiff, if_true, if_false, popIndexAddr, Tryz.underlying44, sz86, eq_self, true_and, and_true, str_list, str_size, str_app, str_cut, str_get, e0_0, e0_1, e0_2, e0_8, markPV, s'.1]
          refine ⟨Int.le_refl _, ?_⟩
          exact hM _ (.refl _)
         apply lex_to
         · rfl
         ·intro h' s' M hM
          simp only [pop, St.eval, constSlot, upd_at, Nat.reduceEqDiff, if_true, if_false, popFieldAddr, fieldOf, List.drop_succ_cons, List.drop_zero, List.getElem?_toArray, List.getElem?_cons_zero, List.getElem?_cons_succ, Tryz.underlying86, sz9, e0_0, e0_1, e0_2, e0_8, markPV, s'.1]
          exact ⟨⟨_, rfl⟩, hM _ (.refl _)⟩
         apply lex_to
         · rfl
         ·intro h' s' M hM
          simp only [pop, St.eval, constSlot, upd_at, Nat.reduceEqDiff, if_true, if_false, popLoad, loadK, isAggD, List.drop_zero, List.getElem?_toArray, List.getElem?_cons_zero, List.getElem?_cons_succ, Bool.false_eq_true, Tryz.underlying9, sz9, eq_self, true_and, and_true, e0_0, e0_1, e0_2, e0_8, markPV, s'.1]
          exact hM _ (.refl _)
         apply lex_to
         · rfl
         ·intro h' s' M hM
          simp only [pop, St.eval, constSlot, upd_at, Nat.reduceEqDiff, if_true, if_false, eq_self, true_and, and_true, str_list, str_size, str_app, str_cut, str_get, e0_0, e0_1, e0_2, e0_8, markPV, s'.1]
          exact hM _ (.refl _)
         apply lex_to
         · rfl
         ·intro h' s' M hM
          simp only [pop, St.eval, constSlot, upd_at, Nat.reduceEqDiff, if_true, if_false, popSlice, boundOf, Option.map_none, Option.map_some, Tryz.underlying44, sz86, eq_self, true_and, and_true, str_list, str_size, str_app, str_cut, str_get, e0_0, e0_1, e0_2, e0_8, markPV, Int.toNat_natCast, List.take_length, show (1 : Int).toNat = 1 from rfl, List.map_cons, List.drop_succ_cons, List.drop_zero, s'.1]
          refine ⟨by decide, by simp only [List.length_cons, List.length_map]; omega, Int.le_refl _, ?_⟩
          exact hM _ (.refl _)
         apply lex_to
         · rfl
         ·intro h' s' M hM
          simp only [pop, St.eval, constSlot, upd_at, Nat.reduceEqDiff, if_true, if_false, eq_self, true_and, and_true, str_list, str_size, str_app, str_cut, str_get, e0_0, e0_1, e0_2, e0_8, markPV, s'.1]
          exact hM _ (.refl _)
         apply lex_to
         · rfl
         ·intro h' s' M hM
          simp only [pop, St.eval, constSlot, upd_at, Nat.reduceEqDiff, if_true, if_false, eq_self, true_and, and_true, str_list, str_size, str_app, str_cut, str_get, e0_0, e0_1, e0_2, e0_8, markPV, s'.1]
          exact hM _ (.refl _)
         apply lex_to
         · rfl
         ·intro h' s' M hM
          simp only [pop, St.eval, constSlot, upd_at, Nat.reduceEqDiff, if_true, if_false, eq_self, true_and, and_true, str_list, str_size, str_app, str_cut, str_get, e0_0, e0_1, e0_2, e0_8, markPV, s'.1]
          exact hM _ (.refl _)
         refine lex_done fun hq5 sq5 => ?_
         replace sq5 := Same.trans sq4 sq5
         refine pops_done (hR73 _ ?_)
         clear hR73 R73
         try simp only [thenK, scopeK]
         refine hN70 _ ?_
         clear hN70 N70
         refine pwp_then fun N74 hN74 => ?_
         refine pwp_reg fun R75 hR75 => ?_
         refine pops_mv (.inl rfl) rfl (by simp only [St.eval, upd_at, Nat.reduceEqDiff, if_true, if_false, e0_0, e0_1, e0_2, e0_8, markPV] <;> rfl) ?_
         refine pops_mv (.inl rfl) rfl (by simp only [St.eval, upd_at, Nat.reduceEqDiff, if_true, if_false, e0_0, e0_1, e0_2, e0_8, markPV] <;> rfl) ?_
         refine pops_mv (.inl rfl) rfl (by simp only [St.eval, upd_at, Nat.reduceEqDiff, if_true, if_false, e0_0, e0_1, e0_2, e0_8, markPV] <;> rfl) ?_
         refine pops_to rfl fun M hM => ?_
         simp only [pop, St.eval, constSlot, upd_at, Nat.reduceEqDiff, if_true, if_false, popCall, List.toList_toArray, List.map_cons, List.map_nil, svs, List.mapM_cons, List.mapM_nil, Option.bind_eq_bind, Option.bind_some, Option.pure_def, List.append_nil, List.cons_append, List.nil_append, str_size, e0_0, e0_1, e0_2, e0_8, markPV]
         first
           | refine PFun.use (changeAB_fun W0 x y b) fun h9 s9 => hM _ _ ?_
           | refine PFun.use (changeA_fun W0 x b) fun h9 s9 => hM _ _ ?_
           | refine PFun.use (changeB_fun W0 y b) fun h9 s9 => hM _ _ ?_
           | refine PFun.use (changeN_fun W0 b) fun h9 s9 => hM _ _ ?_
         replace s9 := Same.trans sq5 s9
         clear hM M
         refine pops_mv (.inr rfl) rfl (by simp only [St.eval, upd_at, Nat.reduceEqDiff, if_true, if_false, e0_0, e0_1, e0_2, e0_8, markPV] <;> rfl) ?_
         refine pops_done (hR75 _ ?_)
         clear hR75 R75
         try simp only [thenK, scopeK]
         refine hN74 _ ?_
         clear hN74 N74
         refine pwp_then fun N76 hN76 => ?_
         refine pwp_reg fun R77 hR77 => ?_
         refine pops_mv (.inl rfl) rfl (by simp only [St.eval, upd_at, Nat.reduceEqDiff, if_true, if_false, e0_0, e0_1, e0_2, e0_8, markPV] <;> rfl) ?_
         refine pops_to rfl fun M hM => ?_
         simp only [pop, St.eval, constSlot, upd_at, Nat.reduceEqDiff, if_true, if_false, popBin, binK, intK, strK, eqK, Tryz.underlying3, isPtr, eq_self, true_and, and_true, e0_0, e0_1, e0_2, e0_8, markPV]
         refine hM _ _ ?_
         clear hM M
         refine pops_done (hR77 _ ?_)
         clear hR77 R77
         try simp only [thenK, scopeK]
         refine hN76 _ ?_
         clear hN76 N76
         refine pwp_cond (by simp only [St.eval, upd_at, Nat.reduceEqDiff, if_true, if_false, e0_0, e0_1, e0_2, e0_8, markPV] <;> rfl) (fun c73 => ?_) (fun c73 => ?_)
         ·skip
          have hd : differB x y b = true := by
            cases hq : differB x y b with
            | true => rfl
            | false => rw [hq] at c73; simp at c73
          refine pwp_reg fun R78 hR78 => ?_
          refine pops_mv (.inl rfl) rfl (by simp only [St.eval, upd_at, Nat.reduceEqDiff, if_true, if_false, e0_0, e0_1, e0_2, e0_8, markPV] <;> rfl) ?_
          refine pops_mv (.inl rfl) rfl (by simp only [St.eval, upd_at, Nat.reduceEqDiff, if_true, if_false, e0_0, e0_1, e0_2, e0_8, markPV] <;> rfl) ?_
          refine pops_mv (.inl rfl) rfl (by simp only [St.eval, upd_at, Nat.reduceEqDiff, if_true, if_false, e0_0, e0_1, e0_2, e0_8, markPV] <;> rfl) ?_
          refine pops_to rfl fun M hM => ?_
          simp only [pop, St.eval, constSlot, upd_at, Nat.reduceEqDiff, if_true, if_false, fillP, slotCells, splice, List.toList_toArray, List.map_cons, List.map_nil, List.length_cons, List.length_nil, Nat.zero_add, Nat.reduceAdd, Nat.reduceLeDiff, List.take_zero, List.take_succ_cons, List.take_nil, List.drop_succ_cons, List.drop_zero, List.drop_nil, List.nil_append, List.cons_append, List.append_nil, and_self, List.getElem?_cons_zero, List.getElem?_cons_succ, List.set_cons_zero, List.set_cons_succ, Option.some.injEq, bd90, eq_self, true_and, and_true, str_list, str_size, str_app, str_cut, str_get, e0_0, e0_1, e0_2, e0_8, markPV]
          refine hM _ _ ?_
          clear hM M
          refine pops_to rfl fun M hM => ?_
          simp only [pop, St.eval, constSlot, upd_at, Nat.reduceEqDiff, if_true, if_false, popBuildSlice, slotCells, List.toList_toArray, List.map_cons, List.map_nil, List.mapM_cons, List.mapM_nil, Option.bind_eq_bind, Option.bind_some, Option.pure_def, Tryz.underlying45, sz90, ze90, by90, eq_self, true_and, and_true, str_list, str_size, str_app, str_cut, str_get, e0_0, e0_1, e0_2, e0_8, markPV]
          refine ⟨by decide, by decide, rfl, rfl, by simp, by decide, rfl, hM _ _ ?_⟩
          clear hM M
          refine pops_to rfl fun M hM => ?_
          simp only [pop, St.eval, constSlot, upd_at, Nat.reduceEqDiff, if_true, if_false, popCall, List.toList_toArray, List.map_cons, List.map_nil, popBuiltin, eq_self, true_and, and_true, str_list, str_size, str_app, str_cut, str_get, e0_0, e0_1, e0_2, e0_8, markPV]
          first
            | refine row_app (ys := [chgPV (3, x.path)]) hb Tryz.underlying45 sz90 by90 ze90 rfl (by decide) (ho.same s9) (hK.trans (Same.keeps s9)) rfl (.inr rfl) ⟨by simp only [List.length_map, List.length_cons, List.length_nil]; omega, by simp only [List.length_map, List.length_cons, List.length_nil]; omega⟩ fun sl2 hp2 ho2 hk2 => hM _ _ ?_
            | refine row_app (ys := [chgPV (1, y.path)]) hb Tryz.underlying45 sz90 by90 ze90 rfl (by decide) (ho.same s9) (hK.trans (Same.keeps s9)) rfl (.inr rfl) ⟨by simp only [List.length_map, List.length_cons, List.length_nil]; omega, by simp only [List.length_map, List.length_cons, List.length_nil]; omega⟩ fun sl2 hp2 ho2 hk2 => hM _ _ ?_
            | refine row_app (ys := [chgPV ((if differB x y b then 2 else 0), y.path)]) hb Tryz.underlying45 sz90 by90 ze90 rfl (by decide) (ho.same s9) (hK.trans (Same.keeps s9)) rfl (.inr rfl) ⟨by simp only [List.length_map, List.length_cons, List.length_nil]; omega, by simp only [List.length_map, List.length_cons, List.length_nil]; omega⟩ fun sl2 hp2 ho2 hk2 => hM _ _ ?_
          clear hM M
          refine pops_mv (.inr rfl) rfl (by simp only [St.eval, upd_at, Nat.reduceEqDiff, if_true, if_false, e0_0, e0_1, e0_2, e0_8, markPV] <;> rfl) ?_
          refine pops_done (hR78 _ ?_)
          clear hR78 R78
          try simp only [blockK, thenK, scopeK]
          try simp only [thenK, scopeK]
          exact ⟨_, by omega, _, .refl _ _, l', m', (out ++ [(2, y.path)]), sl2, rfl, by rw [← hx0_0, merge_ab b x y l' m' hz, if_pos hd, List.append_assoc], fun z hz => hx0_1 z (by simp [hz]), fun z hz => hx0_2 z (by simp [hz]), by simp only [List.length_append, List.length_cons, List.length_nil] at *; omega, ⟨hk2, by rw [List.map_append]; first | exact ho2 | (rw [if_pos hd] at ho2; exact ho2)⟩, by first | (simp only [upd_at, Nat.reduceEqDiff, if_true, if_false, e0_0]; done) | (simp only [upd_at, Nat.reduceEqDiff, if_true, if_false]; rfl) | (simp only [upd_at, Nat.reduceEqDiff, if_true, if_false, e0_0]; rfl), by first | (simp only [upd_at, Nat.reduceEqDiff, if_true, if_false, e0_1]; done) | (simp only [upd_at, Nat.reduceEqDiff, if_true, if_false]; rfl) | (simp only [upd_at, Nat.reduceEqDiff, if_true, if_false, e0_1]; rfl), by simp only [upd_at, Nat.reduceEqDiff, if_true, if_false, e0_0, e0_1, e0_2, e0_8, markPV], by simp only [upd_at, Nat.reduceEqDiff, if_true, if_false, e0_0, e0_1, e0_2, e0_8, markPV]⟩
         ·skip
          have hd : ¬ differB x y b = true := by
            intro hq
            rw [hq] at c73
            simp at c73
          refine pwp_skip ?_
          try simp only [blockK, thenK, scopeK]
          try simp only [thenK, scopeK]
          exact ⟨_, by omega, _, .refl _ _, l', m', out, sl, rfl, by rw [← hx0_0, merge_ab b x y l' m' hz, if_neg hd]; rfl, fun z hz => hx0_1 z (by simp [hz]), fun z hz => hx0_2 z (by simp [hz]), by simp only [List.length_append, List.length_cons, List.length_nil] at *; omega, ⟨hK.trans (Same.keeps s9), ho.same s9⟩, by first | (simp only [upd_at, Nat.reduceEqDiff, if_true, if_false, e0_0]; done) | (simp only [upd_at, Nat.reduceEqDiff, if_true, if_false]; rfl) | (simp only [upd_at, Nat.reduceEqDiff, if_true, if_false, e0_0]; rfl), by first | (simp only [upd_at, Nat.reduceEqDiff, if_true, if_false, e0_1]; done) | (simp only [upd_at, Nat.reduceEqDiff, if_true, if_false]; rfl) | (simp only [upd_at, Nat.reduceEqDiff, if_true, if_false, e0_1]; rfl), by simp only [upd_at, Nat.reduceEqDiff, if_true, if_false, e0_0, e0_1, e0_2, e0_8, markPV], by simp only [upd_at, Nat.reduceEqDiff, if_true, if_false, e0_0, e0_1, e0_2, e0_8, markPV]⟩
        ·skip
         have hz : ordR x.path y.path < 0 := by have := of_decide_eq_false c59; omega
         refine pwp_skip ?_
         try simp only [thenK, scopeK]
         refine hN70 _ ?_
         clear hN70 N70
         refine pwp_then fun N79 hN79 => ?_
         refine pwp_reg fun R80 hR80 => ?_
         refine pops_mv (.inl rfl) rfl (by simp only [St.eval, upd_at, Nat.reduceEqDiff, if_true, if_false, e0_0, e0_1, e0_2, e0_8, markPV] <;> rfl) ?_
         refine pops_mv (.inl rfl) rfl (by simp only [St.eval, upd_at, Nat.reduceEqDiff, if_true, if_false, e0_0, e0_1, e0_2, e0_8, markPV] <;> rfl) ?_
         refine pops_mv (.inl rfl) rfl (by simp only [St.eval, upd_at, Nat.reduceEqDiff, if_true, if_false, e0_0, e0_1, e0_2, e0_8, markPV] <;> rfl) ?_
         refine pops_to rfl fun M hM => ?_
         simp only [pop, St.eval, constSlot, upd_at, Nat.reduceEqDiff, if_true, if_false, popCall, List.toList_toArray, List.map_cons, List.map_nil, svs, List.mapM_cons, List.mapM_nil, Option.bind_eq_bind, Option.bind_some, Option.pure_def, List.append_nil, List.cons_append, List.nil_append, str_size, e0_0, e0_1, e0_2, e0_8, markPV]
         first
           | refine PFun.use (changeAB_fun W0 x y b) fun h9 s9 => hM _ _ ?_
           | refine PFun.use (changeA_fun W0 x b) fun h9 s9 => hM _ _ ?_
           | refine PFun.use (changeB_fun W0 y b) fun h9 s9 => hM _ _ ?_
           | refine PFun.use (changeN_fun W0 b) fun h9 s9 => hM _ _ ?_
         replace s9 := Same.trans sq4 s9
         clear hM M
         refine pops_mv (.inr rfl) rfl (by simp only [St.eval, upd_at, Nat.reduceEqDiff, if_true, if_false, e0_0, e0_1, e0_2, e0_8, markPV] <;> rfl) ?_
         refine pops_done (hR80 _ ?_)
         clear hR80 R80
         try simp only [thenK, scopeK]
         refine hN79 _ ?_
         clear hN79 N79
         refine pwp_then fun N81 hN81 => ?_
         refine pwp_reg fun R82 hR82 => ?_
         refine pops_mv (.inl rfl) rfl (by simp only [St.eval, upd_at, Nat.reduceEqDiff, if_true, if_false, e0_0, e0_1, e0_2, e0_8, markPV] <;> rfl) ?_
         refine pops_to rfl fun M hM => ?_
         simp only [pop, St.eval, constSlot, upd_at, Nat.reduceEqDiff, if_true, if_false, popBin, binK, intK, strK, eqK, Tryz.underlying3, isPtr, eq_self, true_and, and_true, e0_0, e0_1, e0_2, e0_8, markPV]
         refine hM _ _ ?_
         clear hM M
         refine pops_done (hR82 _ ?_)
         clear hR82 R82
         try simp only [thenK, scopeK]
         refine hN81 _ ?_
         clear hN81 N81
         refine pwp_cond_true (by simp only [St.eval, upd_at, Nat.reduceEqDiff, if_true, if_false, e0_0, e0_1, e0_2, e0_8, markPV] <;> rfl) ?_
         refine pwp_reg fun R83 hR83 => ?_
         refine pops_mv (.inl rfl) rfl (by simp only [St.eval, upd_at, Nat.reduceEqDiff, if_true, if_false, e0_0, e0_1, e0_2, e0_8, markPV] <;> rfl) ?_
         refine pops_mv (.inl rfl) rfl (by simp only [St.eval, upd_at, Nat.reduceEqDiff, if_true, if_false, e0_0, e0_1, e0_2, e0_8, markPV] <;> rfl) ?_
         refine pops_mv (.inl rfl) rfl (by simp only [St.eval, upd_at, Nat.reduceEqDiff, if_true, if_false, e0_0, e0_1, e0_2, e0_8, markPV] <;> rfl) ?_
         refine pops_to rfl fun M hM => ?_
         simp only [pop, St.eval, constSlot, upd_at, Nat.reduceEqDiff, if_true, if_false, fillP, slotCells, splice, List.toList_toArray, List.map_cons, List.map_nil, List.length_cons, List.length_nil, Nat.zero_add, Nat.reduceAdd, Nat.reduceLeDiff, List.take_zero, List.take_succ_cons, List.take_nil, List.drop_succ_cons, List.drop_zero, List.drop_nil, List.nil_append, List.cons_append, List.append_nil, and_self, List.getElem?_cons_zero, List.getElem?_cons_succ, List.set_cons_zero, List.set_cons_succ, Option.some.injEq, bd90, eq_self, true_and, and_true, str_list, str_size, str_app, str_cut, str_get, e0_0, e0_1, e0_2, e0_8, markPV]
         refine hM _ _ ?_
         clear hM M
         refine pops_to rfl fun M hM => ?_
         simp only [pop, St.eval, constSlot, upd_at, Nat.reduceEqDiff, if_true, if_false, popBuildSlice, slotCells, List.toList_toArray, List.map_cons, List.map_nil, List.mapM_cons, List.mapM_nil, Option.bind_eq_bind, Option.bind_some, Option.pure_def, Tryz.underlying45, sz90, ze90, by90, eq_self, true_and, and_true, str_list, str_size, str_app, str_cut, str_get, e0_0, e0_1, e0_2, e0_8, markPV]
         refine ⟨by decide, by decide, rfl, rfl, by simp, by decide, rfl, hM _ _ ?_⟩
         clear hM M
         refine pops_to rfl fun M hM => ?_
         simp only [pop, St.eval, constSlot, upd_at, Nat.reduceEqDiff, if_true, if_false, popCall, List.toList_toArray, List.map_cons, List.map_nil, popBuiltin, eq_self, true_and, and_true, str_list, str_size, str_app, str_cut, str_get, e0_0, e0_1, e0_2, e0_8, markPV]
         first
           | refine row_app (ys := [chgPV (3, x.path)]) hb Tryz.underlying45 sz90 by90 ze90 rfl (by decide) (ho.same s9) (hK.trans (Same.keeps s9)) rfl (.inr rfl) ⟨by simp only [List.length_map, List.length_cons, List.length_nil]; omega, by simp only [List.length_map, List.length_cons, List.length_nil]; omega⟩ fun sl2 hp2 ho2 hk2 => hM _ _ ?_
           | refine row_app (ys := [chgPV (1, y.path)]) hb Tryz.underlying45 sz90 by90 ze90 rfl (by decide) (ho.same s9) (hK.trans (Same.keeps s9)) rfl (.inr rfl) ⟨by simp only [List.length_map, List.length_cons, List.length_nil]; omega, by simp only [List.length_map, List.length_cons, List.length_nil]; omega⟩ fun sl2 hp2 ho2 hk2 => hM _ _ ?_
           | refine row_app (ys := [chgPV ((if differB x y b then 2 else 0), y.path)]) hb Tryz.underlying45 sz90 by90 ze90 rfl (by decide) (ho.same s9) (hK.trans (Same.keeps s9)) rfl (.inr rfl) ⟨by simp only [List.length_map, List.length_cons, List.length_nil]; omega, by simp only [List.length_map, List.length_cons, List.length_nil]; omega⟩ fun sl2 hp2 ho2 hk2 => hM _ _ ?_
         clear hM M
         refine pops_mv (.inr rfl) rfl (by simp only [St.eval, upd_at, Nat.reduceEqDiff, if_true, if_false, e0_0, e0_1, e0_2, e0_8, markPV] <;> rfl) ?_
         refine pops_done (hR83 _ ?_)
         clear hR83 R83
         try simp only [blockK, thenK, scopeK]
         try simp only [thenK, scopeK]
         exact ⟨_, by omega, _, .refl _ _, l', (y :: m'), (out ++ [(3, x.path)]), sl2, rfl, by rw [← hx0_0, merge_a b x l' _ (.inr ⟨y, m', rfl, hz⟩), List.append_assoc]; rfl, fun z hz => hx0_1 z (by simp [hz]), hx0_2, by simp only [List.length_append, List.length_cons, List.length_nil] at *; omega, ⟨hk2, by rw [List.map_append]; first | exact ho2 | (rw [if_pos hd] at ho2; exact ho2)⟩, by first | (simp only [upd_at, Nat.reduceEqDiff, if_true, if_false, e0_0]; done) | (simp only [upd_at, Nat.reduceEqDiff, if_true, if_false]; rfl) | (simp only [upd_at, Nat.reduceEqDiff, if_true, if_false, e0_0]; rfl), by first | (simp only [upd_at, Nat.reduceEqDiff, if_true, if_false, e0_1]; done) | (simp only [upd_at, Nat.reduceEqDiff, if_true, if_false]; rfl) | (simp only [upd_at, Nat.reduceEqDiff, if_true, if_false, e0_1]; rfl), by simp only [upd_at, Nat.reduceEqDiff, if_true, if_false, e0_0, e0_1, e0_2, e0_8, markPV], by simp only [upd_at, Nat.reduceEqDiff, if_true, if_false, e0_0, e0_1, e0_2, e0_8, markPV]⟩
       ·skip
        have hgt := of_decide_eq_false c49
        refine pwp_skip ?_
        try simp only [thenK, scopeK]
        refine hN66 _ ?_
        clear hN66 N66
        refine pwp_then fun N84 hN84 => ?_
        refine pwp_then fun N85 hN85 => ?_
        refine pwp_reg fun R86 hR86 => ?_
        refine pops_mv (.inl rfl) rfl (by simp only [St.eval, upd_at, Nat.reduceEqDiff, if_true, if_false, e0_0, e0_1, e0_2, e0_8, markPV] <;> rfl) ?_
        refine pops_to rfl fun M hM => ?_
        simp only [pop, St.eval, constSlot, upd_at, Nat.reduceEqDiff, if_true, if_false, popBin, binK, intK, strK, eqK, eq_self, true_and, and_true, e0_0, e0_1, e0_2, e0_8, markPV]
        refine hM _ _ ?_
        clear hM M
        refine pops_done (hR86 _ ?_)
        clear hR86 R86
        try simp only [thenK, scopeK]
        refine hN85 _ ?_
        clear hN85 N85
        refine pwp_cond (by simp only [St.eval, upd_at, Nat.reduceEqDiff, if_true, if_false, e0_0, e0_1, e0_2, e0_8, markPV] <;> rfl) (fun c59 => ?_) (fun c59 => ?_)
        ·skip
         first
           | have hz : ordR x.path y.path = 0 := by have := of_decide_eq_true c59; omega
           | have hz : 0 < ordR x.path y.path := by have := of_decide_eq_true c59; omega
         refine pwp_dreg 11 mixed (by decide +kernel) fun R87 hR87 => ?_
         simp only [List.take_succ_cons, List.take_zero, List.drop_succ_cons, List.drop_zero]
         apply lex_to
         · rfl
         ·intro h' s' M hM
          simp only [pop, St.eval, constSlot, upd_at, Nat.reduceEqDiff, if_true, if_false, eq_self, true_and, and_true, str_list, str_size, str_app, str_cut, str_get, e0_0, e0_1, e0_2, e0_8, markPV, s'.1]
          exact hM _ (.refl _)
         apply lex_to
         · rfl
         ·intro h' s' M hM
          simp only [pop, St.eval, constSlot, upd_at, Nat.reduceEqDiff, if_true, if_false, popIndexAddr, Tryz.underlying44, sz86, eq_self, true_and, and_true, str_list, str_size, str_app, str_cut, str_get, e0_0, e0_1, e0_2, e0_8, markPV, s'.1]
          refine ⟨Int.le_refl _, ?_⟩
          exact hM _ (.refl _)
         apply lex_to
         · rfl
         ·intro h' s' M hM
          simp only [pop, St.eval, constSlot, upd_at, Nat.reduceEqDiff, if_true, if_false, eq_self, true_and, and_true, str_list, str_size, str_app, str_cut, str_get, e0_0, e0_1, e0_2, e0_8, markPV, s'.1]
          exact hM _ (.refl _)
         apply lex_to
         · rfl
         ·intro h' s' M hM
          simp only [pop, St.eval, constSlot, upd_at, Nat.reduceEqDiff, if_true, if_false, popIndexAddr, Tryz.underlying44, sz86, eq_self, true_and, and_true, str_list, str_size, str_app, str_cut, str_get, e0_0, e0_1, e0_2, e0_8, markPV, s'.1]
          refine ⟨Int.le_refl _, ?_⟩
          exact hM _ (.refl _)
         apply lex_to
         · rfl
         ·intro h' s' M hM
          simp only [pop, St.eval, constSlot, upd_at, Nat.reduceEqDiff, if_true, if_false, popFieldAddr, fieldOf, List.drop_succ_cons, List.drop_zero, List.getElem?_toArray, List.getElem?_cons_zero, List.getElem?_cons_succ, Tryz.underlying86, sz9, e0_0, e0_1, e0_2, e0_8, markPV, s'.1]
          exact ⟨⟨_, rfl⟩, hM _ (.refl _)⟩
         apply lex_to
         · rfl
         ·intro h' s' M hM
          simp only [pop, St.eval, constSlot, upd_at, Nat.reduceEqDiff, if_true, if_false, popLoad, loadK, isAggD, List.drop_zero, List.getElem?_toArray, List.getElem?_cons_zero, List.getElem?_cons_succ, Bool.false_eq_true, Tryz.underlying9, sz9, eq_self, true_and, and_true, e0_0, e0_1, e0_2, e0_8, markPV, s'.1]
          exact hM _ (.refl _)
         apply lex_to
         · rfl
         ·intro h' s' M hM
          simp only [pop, St.eval, constSlot, upd_at, Nat.reduceEqDiff, if_true, if_false, eq_self, true_and, and_true, str_list, str_size, str_app, str_cut, str_get, e0_0, e0_1, e0_2, e0_8, markPV, s'.1]
          exact hM _ (.refl _)
         apply lex_to
         · rfl
         ·intro h' s' M hM
          simp only [pop, St.eval, constSlot, upd_at, Nat.reduceEqDiff, if_true, if_false, popSlice, boundOf, Option.map_none, Option.map_some, Tryz.underlying44, sz86, eq_self, true_and, and_true, str_list, str_size, str_app, str_cut, str_get, e0_0, e0_1, e0_2, e0_8, markPV, Int.toNat_natCast, List.take_length, show (1 : Int).toNat = 1 from rfl, List.map_cons, List.drop_succ_cons, List.drop_zero, s'.1]
          refine ⟨by decide, by simp only [List.length_cons, List.length_map]; omega, Int.le_refl _, ?_⟩
          exact hM _ (.refl _)
         apply lex_to
         · rfl
         ·intro h' s' M hM
          simp only [pop, St.eval, constSlot, upd_at, Nat.reduceEqDiff, if_true, if_false, eq_self, true_and, and_true, str_list, str_size, str_app, str_cut, str_get, e0_0, e0_1, e0_2, e0_8, markPV, s'.1]
          exact hM _ (.refl _)
         apply lex_to
         · rfl
         ·intro h' s' M hM
          simp only [pop, St.eval, constSlot, upd_at, Nat.reduceEqDiff, if_true, if_false, eq_self, true_and, and_true, str_list, str_size, str_app, str_cut, str_get, e0_0, e0_1, e0_2, e0_8, markPV, s'.1]
          exact hM _ (.refl _)
         apply lex_to
         · rfl
         ·intro h' s' M hM
          simp only [pop, St.eval, constSlot, upd_at, Nat.reduceEqDiff, if_true, if_false, eq_self, true_and, and_true, str_list, str_size, str_app, str_cut, str_get, e0_0, e0_1, e0_2, e0_8, markPV, s'.1]
          exact hM _ (.refl _)
         refine lex_done fun hq6 sq6 => ?_
         replace sq6 := Same.trans sq3 sq6
         refine pops_done (hR87 _ ?_)
         clear hR87 R87
         try simp only [thenK, scopeK]
         refine hN84 _ ?_
         clear hN84 N84
         refine pwp_then fun N88 hN88 => ?_
         refine pwp_reg fun R89 hR89 => ?_
         refine pops_mv (.inl rfl) rfl (by simp only [St.eval, upd_at, Nat.reduceEqDiff, if_true, if_false, e0_0, e0_1, e0_2, e0_8, markPV] <;> rfl) ?_
         refine pops_mv (.inl rfl) rfl (by simp only [St.eval, upd_at, Nat.reduceEqDiff, if_true, if_false, e0_0, e0_1, e0_2, e0_8, markPV] <;> rfl) ?_
         refine pops_mv (.inl rfl) rfl (by simp only [St.eval, upd_at, Nat.reduceEqDiff, if_true, if_false, e0_0, e0_1, e0_2, e0_8, markPV] <;> rfl) ?_
         refine pops_to rfl fun M hM => ?_
         simp only [pop, St.eval, constSlot, upd_at, Nat.reduceEqDiff, if_true, if_false, popCall, List.toList_toArray, List.map_cons, List.map_nil, svs, List.mapM_cons, List.mapM_nil, Option.bind_eq_bind, Option.bind_some, Option.pure_def, List.append_nil, List.cons_append, List.nil_append, str_size, e0_0, e0_1, e0_2, e0_8, markPV]
         first
           | refine PFun.use (changeAB_fun W0 x y b) fun h9 s9 => hM _ _ ?_
           | refine PFun.use (changeA_fun W0 x b) fun h9 s9 => hM _ _ ?_
           | refine PFun.use (changeB_fun W0 y b) fun h9 s9 => hM _ _ ?_
           | refine PFun.use (changeN_fun W0 b) fun h9 s9 => hM _ _ ?_
         replace s9 := Same.trans sq6 s9
         clear hM M
         refine pops_mv (.inr rfl) rfl (by simp only [St.eval, upd_at, Nat.reduceEqDiff, if_true, if_false, e0_0, e0_1, e0_2, e0_8, markPV] <;> rfl) ?_
         refine pops_done (hR89 _ ?_)
         clear hR89 R89
         try simp only [thenK, scopeK]
         refine hN88 _ ?_
         clear hN88 N88
         refine pwp_then fun N90 hN90 => ?_
         refine pwp_reg fun R91 hR91 => ?_
         refine pops_mv (.inl rfl) rfl (by simp only [St.eval, upd_at, Nat.reduceEqDiff, if_true, if_false, e0_0, e0_1, e0_2, e0_8, markPV] <;> rfl) ?_
         refine pops_to rfl fun M hM => ?_
         simp only [pop, St.eval, constSlot, upd_at, Nat.reduceEqDiff, if_true, if_false, popBin, binK, intK, strK, eqK, Tryz.underlying3, isPtr, eq_self, true_and, and_true, e0_0, e0_1, e0_2, e0_8, markPV]
         refine hM _ _ ?_
         clear hM M
         refine pops_done (hR91 _ ?_)
         clear hR91 R91
         try simp only [thenK, scopeK]
         refine hN90 _ ?_
         clear hN90 N90
         refine pwp_cond_true (by simp only [St.eval, upd_at, Nat.reduceEqDiff, if_true, if_false, e0_0, e0_1, e0_2, e0_8, markPV] <;> rfl) ?_
         refine pwp_reg fun R92 hR92 => ?_
         refine pops_mv (.inl rfl) rfl (by simp only [St.eval, upd_at, Nat.reduceEqDiff, if_true, if_false, e0_0, e0_1, e0_2, e0_8, markPV] <;> rfl) ?_
         refine pops_mv (.inl rfl) rfl (by simp only [St.eval, upd_at, Nat.reduceEqDiff, if_true, if_false, e0_0, e0_1, e0_2, e0_8, markPV] <;> rfl) ?_
         refine pops_mv (.inl rfl) rfl (by simp only [St.eval, upd_at, Nat.reduceEqDiff, if_true, if_false, e0_0, e0_1, e0_2, e0_8, markPV] <;> rfl) ?_
         refine pops_to rfl fun M hM => ?_
         simp only [pop, St.eval, constSlot, upd_at, Nat.reduceEqDiff, if_true, if_false, fillP, slotCells, splice, List.toList_toArray, List.map_cons, List.map_nil, List.length_cons, List.length_nil, Nat.zero_add, Nat.reduceAdd, Nat.reduceLeDiff, List.take_zero, List.take_succ_cons, List.take_nil, List.drop_succ_cons, List.drop_zero, List.drop_nil, List.nil_append, List.cons_append, List.append_nil, and_self, List.getElem?_cons_zero, List.getElem?_cons_succ, List.set_cons_zero, List.set_cons_succ, Option.some.injEq, bd90, eq_self, true_and, and_true, str_list, str_size, str_app, str_cut, str_get, e0_0, e0_1, e0_2, e0_8, markPV]
         refine hM _ _ ?_
         clear hM M
         refine pops_to rfl fun M hM => ?_
         simp only [pop, St.eval, constSlot, upd_at, Nat.reduceEqDiff, if_true, if_false, popBuildSlice, slotCells, List.toList_toArray, List.map_cons, List.map_nil, List.mapM_cons, List.mapM_nil, Option.bind_eq_bind, Option.bind_some, Option.pure_def, Tryz.underlying45, sz90, ze90, by90, eq_self, true_and, and_true, str_list, str_size, str_app, str_cut, str_get, e0_0, e0_1, e0_2, e0_8, markPV]
         refine ⟨by decide, by decide, rfl, rfl, by simp, by decide, rfl, hM _ _ ?_⟩
         clear hM M
         refine pops_to rfl fun M hM => ?_
         simp only [pop, St.eval, constSlot, upd_at, Nat.reduceEqDiff, if_true, if_false, popCall, List.toList_toArray, List.map_cons, List.map_nil, popBuiltin, eq_self, true_and, and_true, str_list, str_size, str_app, str_cut, str_get, e0_0, e0_1, e0_2, e0_8, markPV]
         first
           | refine row_app (ys := [chgPV (3, x.path)]) hb Tryz.underlying45 sz90 by90 ze90 rfl (by decide) (ho.same s9) (hK.trans (Same.keeps s9)) rfl (.inr rfl) ⟨by simp only [List.length_map, List.length_cons, List.length_nil]; omega, by simp only [List.length_map, List.length_cons, List.length_nil]; omega⟩ fun sl2 hp2 ho2 hk2 => hM _ _ ?_
           | refine row_app (ys := [chgPV (1, y.path)]) hb Tryz.underlying45 sz90 by90 ze90 rfl (by decide) (ho.same s9) (hK.trans (Same.keeps s9)) rfl (.inr rfl) ⟨by simp only [List.length_map, List.length_cons, List.length_nil]; omega, by simp only [List.length_map, List.length_cons, List.length_nil]; omega⟩ fun sl2 hp2 ho2 hk2 => hM _ _ ?_
           | refine row_app (ys := [chgPV ((if differB x y b then 2 else 0), y.path)]) hb Tryz.underlying45 sz90 by90 ze90 rfl (by decide) (ho.same s9) (hK.trans (Same.keeps s9)) rfl (.inr rfl) ⟨by simp only [List.length_map, List.length_cons, List.length_nil]; omega, by simp only [List.length_map, List.length_cons, List.length_nil]; omega⟩ fun sl2 hp2 ho2 hk2 => hM _ _ ?_
         clear hM M
         refine pops_mv (.inr rfl) rfl (by simp only [St.eval, upd_at, Nat.reduceEqDiff, if_true, if_false, e0_0, e0_1, e0_2, e0_8, markPV] <;> rfl) ?_
         refine pops_done (hR92 _ ?_)
         clear hR92 R92
         try simp only [blockK, thenK, scopeK]
         try simp only [thenK, scopeK]
         exact ⟨_, by omega, _, .refl _ _, (x :: l'), m', (out ++ [(1, y.path)]), sl2, rfl, by rw [← hx0_0, merge_b b y _ m' (.inr ⟨x, l', rfl, hz⟩), List.append_assoc]; rfl, hx0_1, fun z hz => hx0_2 z (by simp [hz]), by simp only [List.length_append, List.length_cons, List.length_nil] at *; omega, ⟨hk2, by rw [List.map_append]; first | exact ho2 | (rw [if_pos hd] at ho2; exact ho2)⟩, by first | (simp only [upd_at, Nat.reduceEqDiff, if_true, if_false, e0_0]; done) | (simp only [upd_at, Nat.reduceEqDiff, if_true, if_false]; rfl) | (simp only [upd_at, Nat.reduceEqDiff, if_true, if_false, e0_0]; rfl), by first | (simp only [upd_at, Nat.reduceEqDiff, if_true, if_false, e0_1]; done) | (simp only [upd_at, Nat.reduceEqDiff, if_true, if_false]; rfl) | (simp only [upd_at, Nat.reduceEqDiff, if_true, if_false, e0_1]; rfl), by simp only [upd_at, Nat.reduceEqDiff, if_true, if_false, e0_0, e0_1, e0_2, e0_8, markPV], by simp only [upd_at, Nat.reduceEqDiff, if_true, if_false, e0_0, e0_1, e0_2, e0_8, markPV]⟩
        ·skip
         have hz : ordR x.path y.path < 0 := by have := of_decide_eq_false c59; omega
         refine pwp_skip ?_
         try simp only [thenK, scopeK]
         refine hN84 _ ?_
         clear hN84 N84
         refine pwp_then fun N93 hN93 => ?_
         refine pwp_reg fun R94 hR94 => ?_
         refine pops_mv (.inl rfl) rfl (by simp only [St.eval, upd_at, Nat.reduceEqDiff, if_true, if_false, e0_0, e0_1, e0_2, e0_8, markPV] <;> rfl) ?_
         refine pops_mv (.inl rfl) rfl (by simp only [St.eval, upd_at, Nat.reduceEqDiff, if_true, if_false, e0_0, e0_1, e0_2, e0_8, markPV] <;> rfl) ?_
         refine pops_mv (.inl rfl) rfl (by simp only [St.eval, upd_at, Nat.reduceEqDiff, if_true, if_false, e0_0, e0_1, e0_2, e0_8, markPV] <;> rfl) ?_
         refine pops_to rfl fun M hM => ?_
         simp only [pop, St.eval, constSlot, upd_at, Nat.reduceEqDiff, if_true, if_false, popCall, List.toList_toArray, List.map_cons, List.map_nil, svs, List.mapM_cons, List.mapM_nil, Option.bind_eq_bind, Option.bind_some, Option.pure_def, List.append_nil, List.cons_append, List.nil_append, str_size, e0_0, e0_1, e0_2, e0_8, markPV]
         first
           | refine PFun.use (changeAB_fun W0 x y b) fun h9 s9 => hM _ _ ?_
           | refine PFun.use (changeA_fun W0 x b) fun h9 s9 => hM _ _ ?_
           | refine PFun.use (changeB_fun W0 y b) fun h9 s9 => hM _ _ ?_
           | refine PFun.use (changeN_fun W0 b) fun h9 s9 => hM _ _ ?_
         replace s9 := Same.trans sq3 s9
         clear hM M
         refine pops_mv (.inr rfl) rfl (by simp only [St.eval, upd_at, Nat.reduceEqDiff, if_true, if_false, e0_0, e0_1, e0_2, e0_8, markPV] <;> rfl) ?_
         refine pops_done (hR94 _ ?_)
         clear hR94 R94
         try simp only [thenK, scopeK]
         refine hN93 _ ?_
         clear hN93 N93
         refine pwp_then fun N95 hN95 => ?_
         refine pwp_reg fun R96 hR96 => ?_
         refine pops_mv (.inl rfl) rfl (by simp only [St.eval, upd_at, Nat.reduceEqDiff, if_true, if_false, e0_0, e0_1, e0_2, e0_8, markPV] <;> rfl) ?_
         refine pops_to rfl fun M hM => ?_
         simp only [pop, St.eval, constSlot, upd_at, Nat.reduceEqDiff, if_true, if_false, popBin, binK, intK, strK, eqK, Tryz.underlying3, isPtr, eq_self, true_and, and_true, e0_0, e0_1, e0_2, e0_8, markPV]
         refine hM _ _ ?_
         clear hM M
         refine pops_done (hR96 _ ?_)
         clear hR96 R96
         try simp only [thenK, scopeK]
         refine hN95 _ ?_
         clear hN95 N95
         refine pwp_cond_false (by simp only [St.eval, upd_at, Nat.reduceEqDiff, if_true, if_false, e0_0, e0_1, e0_2, e0_8, markPV] <;> rfl) ?_
         refine pwp_skip ?_
         try simp only [blockK, thenK, scopeK]
         try simp only [thenK, scopeK]
         exact ⟨_, by omega, _, .refl _ _, l', m', out, sl, rfl, by exfalso; omega, by exfalso; omega, by exfalso; omega, by exfalso; omega, ⟨hK.trans (Same.keeps s9), ho.same s9⟩, by exfalso; omega, by exfalso; omega, by simp only [upd_at, Nat.reduceEqDiff, if_true, if_false, e0_0, e0_1, e0_2, e0_8, markPV], by exfalso; omega⟩
    ·skip
     have hend : l = [] ∧ m = [] := by
       have := of_decide_eq_false c30
       rw [wrap_i64 (by omega) (by omega)] at this
       exact ⟨List.length_eq_zero_iff.1 (by omega), List.length_eq_zero_iff.1 (by omega)⟩
     refine pwp_exit ?_
     try simp only [thenK, blockK, scopeK, if_true, Nat.reduceEqDiff, if_false]
     clear hN17 N17
     try simp only [blockK, scopeK, if_true, Nat.reduceEqDiff, if_false, thenK]
     try simp only [thenK, scopeK]
     refine hN16 _ ?_
     clear hN16 N16
     refine pwp_then fun N97 hN97 => ?_
     refine pwp_reg fun R98 hR98 => ?_
     refine pops_mv (.inl rfl) rfl (by simp only [St.eval, upd_at, Nat.reduceEqDiff, if_true, if_false, e0_0, e0_1, e0_2, e0_8, markPV] <;> rfl) ?_
     refine pops_mv (.inr rfl) rfl (by simp only [St.eval, upd_at, Nat.reduceEqDiff, if_true, if_false, e0_0, e0_1, e0_2, e0_8, markPV] <;> rfl) ?_
     refine pops_mv (.inr rfl) rfl (by simp only [St.eval, constSlot] <;> rfl) ?_
     refine pops_done (hR98 _ ?_)
     clear hR98 R98
     try simp only [thenK, scopeK]
     refine hN97 _ ?_
     clear hN97 N97
     refine pwp_ret ?_
     simp only [thenK, blockK, scopeK, bodyK]
     obtain ⟨p9, rfl⟩ := ho.one
     obtain ⟨r', h', hw, e, hs9⟩ := endRow2 (W0 := W0) (b := .one (pint 0)) (s := .one p9) rfl rfl (fun w h m h' v x y => SVR.ext y x) ho hb hK
     exact ⟨_, rfl, r', h', hw, _, e.trans (by rw [chgsR, if_neg hr, if_neg hs]), .inr (by rw [chgsR, if_neg hr, if_neg hs, ← hx0_0, hend.1, hend.2]; simp [mergeC]), hs9⟩
end Go.Pw
