import Derived.Test.YtokmndkkgbamfaaGreatDoorChgM
import Derived.Test.YtokmndkkgbamfaaGreatDoorChgFacts
namespace Go.Pw
open Go Go.RowKit Go.Proofs
set_option maxRecDepth 100000
set_option linter.unusedSimpArgs false
set_option linter.unusedVariables false

def rowsM (L : List (List MarkG)) : List (List PV) := L.map fun l => [.ro false 4 (l.map markPV)]
def bPart (b : Int) (A : List MarkG) (y : MarkG) : List (Int × List UInt8) := if findM A y.path < 0 then [(1, y.path)] else match A[(findM A y.path).toNat]? with
  | some x => if differB x y b then [(2, y.path)] else []
  | none => []
def aPart (B : List MarkG) (x : MarkG) : List (Int × List UInt8) := if findM B x.path < 0 then [(3, x.path)] else []
def foundB (b : Int) (A B : List MarkG) (i : Nat) : List (Int × List UInt8) := ((B.take i).map (bPart b A)).flatten
def foundA (b : Int) (A B : List MarkG) (i : Nat) : List (Int × List UInt8) := foundB b A B B.length ++ ((A.take i).map (aPart B)).flatten
theorem foundB_step {b : Int} {A B : List MarkG} {i : Nat} {y : MarkG} (hy : B[i]? = some y) : foundB b A B (i + 1) = foundB b A B i ++ bPart b A y := by
  unfold foundB
  rw [List.take_add_one, hy]; simp
theorem foundA_step {b : Int} {A B : List MarkG} {i : Nat} {x : MarkG} (hx : A[i]? = some x) : foundA b A B (i + 1) = foundA b A B i ++ aPart B x := by
  unfold foundA
  rw [List.take_add_one, hx]; simp
theorem bPart_len (b : Int) (A : List MarkG) (y : MarkG) : (bPart b A y).length ≤ 1 := by
  unfold bPart
  split
  · simp
  · split
    · split <;> simp
    · simp
theorem aPart_len (B : List MarkG) (x : MarkG) : (aPart B x).length ≤ 1 := by unfold aPart; split <;> simp
theorem flat_len1 {α β : Type} {f : α → List β} (h : ∀ x, (f x).length ≤ 1) : ∀ l : List α, (l.map f).flatten.length ≤ l.length
  | [] => by simp
  | a :: l => by
    have := flat_len1 h l
    have := h a
    simp only [List.map_cons, List.flatten_cons, List.length_append, List.length_cons]; omega
theorem foundB_len (b : Int) (A B : List MarkG) (i : Nat) : (foundB b A B i).length ≤ B.length := by
  have := flat_len1 (bPart_len b A) (B.take i)
  have h2 : (B.take i).length ≤ B.length := by rw [List.length_take]; omega
  unfold foundB; omega
theorem foundA_len (b : Int) (A B : List MarkG) (i : Nat) : (foundA b A B i).length ≤ A.length + B.length := by
  have := flat_len1 (aPart_len B) (A.take i)
  have h2 : (A.take i).length ≤ A.length := by rw [List.length_take]; omega
  have := foundB_len b A B B.length
  unfold foundA
  rw [List.length_append]; omega
theorem find_at {l : List MarkG} {p : List UInt8} (h : ¬ findM l p < 0) : ∃ (k : Nat) (x : MarkG), findM l p = (k : Int) ∧ l[k]? = some x := by
  unfold findM at h ⊢
  cases hf : l.findIdx? (fun x => x.path == p) with
  | none => rw [hf] at h; exact absurd (by decide) h
  | some k =>
    have hk : k < l.length := (List.findIdx?_eq_some_iff_findIdx_eq.1 hf).1
    exact ⟨k, l[k], rfl, List.getElem?_eq_getElem hk⟩
theorem bPart_1 {b : Int} {A : List MarkG} {y : MarkG} (h : findM A y.path < 0) : bPart b A y = [(1, y.path)] := by rw [bPart, if_pos h]
theorem bPart_2 {b : Int} {A : List MarkG} {x y : MarkG} {k : Nat} (h : findM A y.path = (k : Int)) (hx : A[k]? = some x) (hd : differB x y b = true) : bPart b A y = [(2, y.path)] := by
  rw [bPart, if_neg (by omega), h, Int.toNat_natCast, hx]; simp [hd]
theorem bPart_0 {b : Int} {A : List MarkG} {x y : MarkG} {k : Nat} (h : findM A y.path = (k : Int)) (hx : A[k]? = some x) (hd : differB x y b = false) : bPart b A y = [] := by
  rw [bPart, if_neg (by omega), h, Int.toNat_natCast, hx]; simp [hd]
theorem aPart_1 {B : List MarkG} {x : MarkG} (h : findM B x.path < 0) : aPart B x = [(3, x.path)] := by rw [aPart, if_pos h]
theorem aPart_0 {B : List MarkG} {x : MarkG} (h : ¬ findM B x.path < 0) : aPart B x = [] := by rw [aPart, if_neg h]
/-- What slices.SortFunc is to do here (to be shown out of the library's contract). -/
def SortC (W0 : World) : Prop := ∀ (h0 hp : Hp) (l : List (Int × List UInt8)) (p : PV), hpOk h0 → Keeps h0 hp → (∀ z ∈ l, z.2.length ≤ 9223372036854775807) → l.length ≤ 2097152 → RowIs 90 2 h0 hp (.sv (.one p)) (l.map chgPV) →
  PCalls Tryz.prog W0 35 [.one p, .one (.clo (.func 36) [])] hp (fun r h' => r = .tup [] ∧ ∃ l' : List (Int × List UInt8), l'.Perm l ∧ l'.Pairwise (fun x y => ordR x.2 y.2 ≤ 0) ∧ RowIs 90 2 h0 h' (.sv (.one p)) (l'.map chgPV) ∧ Keeps h0 h')
theorem found_paths {b : Int} {A B : List MarkG} (hA : ∀ x ∈ A, x.path.length ≤ 9223372036854775807) (hB : ∀ x ∈ B, x.path.length ≤ 9223372036854775807) (i : Nat) : ∀ z ∈ foundA b A B i, z.2.length ≤ 9223372036854775807 := by
  intro z hz
  unfold foundA foundB at hz
  simp only [List.take_length, List.mem_append, List.mem_flatten, List.mem_map] at hz
  rcases hz with ⟨q, ⟨y, hy, rfl⟩, hz⟩ | ⟨q, ⟨x, hx, rfl⟩, hz⟩
  · have hl := hB y hy
    unfold bPart at hz
    split at hz
    · simp only [List.mem_singleton] at hz; rw [hz]; exact hl
    · split at hz
      · split at hz
        · simp only [List.mem_singleton] at hz; rw [hz]; exact hl
        · cases hz
      · cases hz
  · have hl := hA x (List.mem_of_mem_take hx)
    unfold aPart at hz
    split at hz
    · simp only [List.mem_singleton] at hz; rw [hz]; exact hl
    · cases hz
theorem nm13 : (Tryz.f13.name == "runtime.NumGoroutine") = false := by kernel_rfl
set_option maxHeartbeats 4000000 in
theorem changesRef_fun (W0 : World) (hsort : SortC W0) (A B : List MarkG) (b : Int) (hnA : A.length ≤ 1048576) (hnB : B.length ≤ 1048576) (hpA : ∀ x ∈ A, x.path.length ≤ 9223372036854775807) (hpB : ∀ x ∈ B, x.path.length ≤ 9223372036854775807) (h : Hp) :
  PCalls Tryz.prog W0 13 [.one (.ro false 4 (A.map markPV)), .one (.ro false 4 (B.map markPV)), .one (pint b)] h (fun r h' => ∃ s, r = .tup [.one s, .one (pint (chgsR b A B).2)] ∧ (∃ l' : List (Int × List UInt8), (s = .val (.slice none 0 0) ∧ l' = [] ∨ s = .ro false 2 (l'.map chgPV)) ∧ ((chgsR b A B).2 = 0 → l'.Perm (foundA b A B A.length) ∧ l'.Pairwise (fun x y => ordR x.2 y.2 ≤ 0)) ∧ ((chgsR b A B).2 ≠ 0 → l' = [])) ∧ Same h h') := by
 refine pcalls3 (n := 110) Tryz.func13 rfl nm13 rfl fun hb => ?_
 refine pwp_then fun N1 hN1 => ?_
 refine pwp_reg fun R2 hR2 => ?_
 refine pops_mv (.inr rfl) rfl (by simp only [St.eval, constSlot] <;> rfl) ?_
 refine pops_mv (.inr rfl) rfl (by simp only [St.eval, constSlot] <;> rfl) ?_
 refine pops_done (hR2 _ ?_)
 clear hR2 R2
 try simp only [thenK, scopeK]
 refine hN1 _ ?_
 clear hN1 N1
 refine pwp_then fun N3 hN3 => ?_
 refine pwp_then fun N4 hN4 => ?_
 refine pwp_reg fun R5 hR5 => ?_
 refine pops_mv (.inl rfl) rfl (by simp only [St.eval, upd_at, Nat.reduceEqDiff, if_true, if_false, markPV] <;> rfl) ?_
 refine pops_to rfl fun M hM => ?_
 simp only [pop, St.eval, constSlot, upd_at, Nat.reduceEqDiff, if_true, if_false, popBin, binK, intK, strK, eqK, eq_self, true_and, and_true, markPV]
 refine hM _ _ ?_
 clear hM M
 refine pops_mv (.inl rfl) rfl (by simp only [St.eval, upd_at, Nat.reduceEqDiff, if_true, if_false, markPV] <;> rfl) ?_
 apply pops_or0 3 20 23 [21, 22] (by simp only [upd_at, Nat.reduceEqDiff, if_true, if_false, markPV] <;> rfl)
 ·skip
  intro g20_0 J6 hJ6
  simp only [List.take_succ_cons, List.take_zero]
  simp only [anyAt_cons, anyAt_nil] at hJ6
  refine pops_mvg (.inl rfl) rfl rfl (by simp only [upd_at, Nat.reduceEqDiff, if_true, if_false, markPV, g20_0]) (by simp only [St.eval, upd_at, Nat.reduceEqDiff, if_true, if_false, markPV, g20_0] <;> rfl) ?_
  refine pops_do rfl rfl (by simp only [upd_at, Nat.reduceEqDiff, if_true, if_false, markPV, g20_0]) fun M hM => ?_
  simp only [pop, St.eval, constSlot, upd_at, Nat.reduceEqDiff, if_true, if_false, popBin, binK, intK, strK, eqK, eq_self, true_and, and_true, markPV, g20_0]
  refine hM _ _ ?_
  clear hM M
  refine pops_to rfl fun M hM => ?_
  simp only [pop, St.eval, constSlot, upd_at, Nat.reduceEqDiff, if_true, if_false, popIf, true_implies, false_implies, Bool.true_eq_false, Bool.false_eq_true, reduceCtorEq, true_and, and_true, markPV, g20_0]
  refine hM _ _ ?_
  clear hM M
  exact pops_done (hJ6 _ (wk_same (wk_any ((wk_any (Wk.refl _ _))))))
 ·skip
  intro g20_0 J6 hJ6
  simp only [List.take_succ_cons, List.take_zero]
  simp only [anyAt_cons, anyAt_nil] at hJ6
  refine pops_off (b := true) rfl rfl (by simp only [upd_at, Nat.reduceEqDiff, if_true, if_false, markPV, g20_0]) (by decide) ?_
  refine pops_off (b := true) rfl rfl (by simp only [upd_at, Nat.reduceEqDiff, if_true, if_false, markPV, g20_0]) (by decide) ?_
  refine pops_to rfl fun M hM => ?_
  simp only [pop, St.eval, constSlot, upd_at, Nat.reduceEqDiff, if_true, if_false, popIf, true_implies, false_implies, Bool.true_eq_false, Bool.false_eq_true, reduceCtorEq, true_and, and_true, markPV, g20_0]
  refine hM _ _ ?_
  clear hM M
  exact pops_done (hJ6 _ (wk_same (wk_any ((wk_any (Wk.refl _ _))))))
 simp only [List.drop_succ_cons, List.drop_zero, anyAt_cons, anyAt_nil]
 refine pops_done (hR5 _ ?_)
 clear hR5 R5
 try simp only [thenK, scopeK]
 refine hN4 _ ?_
 clear hN4 N4
 refine pwp_cond (by simp only [St.eval, upd_at, Nat.reduceEqDiff, if_true, if_false, markPV] <;> rfl) (fun c23 => ?_) (fun c23 => ?_)
 ·skip
  have hr : rightB b = false := by unfold rightB; simp only [Bool.or_eq_true, decide_eq_true_eq] at c23; simp; omega
  refine pwp_then fun N7 hN7 => ?_
  refine pwp_reg fun R8 hR8 => ?_
  refine pops_mv (.inr rfl) rfl (by simp only [St.eval, constSlot] <;> rfl) ?_
  refine pops_mv (.inr rfl) rfl (by simp only [St.eval, constSlot] <;> rfl) ?_
  refine pops_done (hR8 _ ?_)
  clear hR8 R8
  try simp only [thenK, scopeK]
  refine hN7 _ ?_
  clear hN7 N7
  refine pwp_ret ?_
  simp only [thenK, blockK, scopeK, bodyK]
  clear hN3 N3
  exact ⟨_, rfl, _, _, .refl _ _ _, .val (.slice none 0 0), by rw [chgsR, if_pos hr], ⟨[], .inl ⟨rfl, rfl⟩, by rw [chgsR, if_pos hr]; exact fun h => absurd h (by decide), fun _ => rfl⟩, (Same.refl _)⟩
 ·skip
  have hr : ¬ rightB b = false := by unfold rightB; simp only [Bool.or_eq_false_iff, decide_eq_false_iff_not] at c23; simp; omega
  refine pwp_skip ?_
  try simp only [thenK, scopeK]
  refine hN3 _ ?_
  clear hN3 N3
  refine pwp_then fun N9 hN9 => ?_
  refine pwp_then fun N10 hN10 => ?_
  refine pwp_reg fun R11 hR11 => ?_
  refine pops_mv (.inl rfl) rfl (by simp only [St.eval, upd_at, Nat.reduceEqDiff, if_true, if_false, markPV] <;> rfl) ?_
  refine pops_mv (.inl rfl) rfl (by simp only [St.eval, upd_at, Nat.reduceEqDiff, if_true, if_false, markPV] <;> rfl) ?_
  refine pops_to rfl fun M hM => ?_
  simp only [pop, St.eval, constSlot, upd_at, Nat.reduceEqDiff, if_true, if_false, popBuildSlice, slotCells, List.toList_toArray, List.map_cons, List.map_nil, List.mapM_cons, List.mapM_nil, Option.bind_eq_bind, Option.bind_some, Option.pure_def, Tryz.underlying91, sz44, ze44, by44, eq_self, true_and, and_true, str_list, str_size, str_app, str_cut, str_get, markPV]
  refine ⟨by decide, by decide, rfl, rfl, by simp, by decide, rfl, hM _ _ ?_⟩
  clear hM M
  refine pops_to rfl fun M hM => ?_
  simp only [pop, St.eval, constSlot, upd_at, Nat.reduceEqDiff, if_true, if_false, popCall, List.toList_toArray, List.map_cons, List.map_nil, popBuiltin, popLen, lenOfSlot, List.length_map, Tryz.underlying91, eq_self, true_and, and_true, str_list, str_size, str_app, str_cut, str_get, markPV]
  refine hM _ _ ?_
  clear hM M
  refine pops_mv (.inl rfl) rfl (by simp only [St.eval, constSlot] <;> rfl) ?_
  refine pops_done (hR11 _ ?_)
  clear hR11 R11
  try simp only [thenK, scopeK]
  refine hN10 _ ?_
  clear hN10 N10
  refine pwp_block ?_
  refine pwp_loop (fun k σ => ∃ (q : Nat), (k = 2 - q) ∧ (q ≤ 2) ∧ (∀ l ∈ [A, B].take q, risesB l = true) ∧ (Same h σ.hp) ∧ (σ.env 0 = .sv (.one (.ro false 4 (A.map markPV)))) ∧ (σ.env 1 = .sv (.one (.ro false 4 (B.map markPV)))) ∧ (σ.env 2 = .sv (.one (pint b))) ∧ (σ.env 26 = .sv (.one (.ro true 1 (rowsM [A, B])))) ∧ (σ.env 27 = .sv (.one (pint (2 : Nat)))) ∧ (σ.env 28 = .sv (.one (pint (q : Nat))))) _ ⟨_, .refl _ _, 0, rfl, ?_⟩ ?_
  · exact ⟨Nat.zero_le _, by simp, (Same.refl _), by simp only [upd_at, Nat.reduceEqDiff, if_true, if_false, markPV], by simp only [upd_at, Nat.reduceEqDiff, if_true, if_false, markPV], by simp only [upd_at, Nat.reduceEqDiff, if_true, if_false, markPV], by simp only [upd_at, Nat.reduceEqDiff, if_true, if_false] <;> rfl, by simp only [upd_at, Nat.reduceEqDiff, if_true, if_false] <;> rfl, by simp only [upd_at, Nat.reduceEqDiff, if_true, if_false] <;> rfl⟩
  ·rintro k ⟨e, hp0⟩ ⟨q, hk0, hx0_0, hx0_1, sl0, e0_0, e0_1, e0_2, e0_26, e0_27, e0_28⟩
   simp only at sl0 e0_0 e0_1 e0_2 e0_26 e0_27 e0_28
   refine pwp_then fun N12 hN12 => ?_
   refine pwp_reg fun R13 hR13 => ?_
   refine pops_to rfl fun M hM => ?_
   simp only [pop, St.eval, constSlot, upd_at, Nat.reduceEqDiff, if_true, if_false, popBin, binK, intK, strK, eqK, eq_self, true_and, and_true, e0_0, e0_1, e0_2, e0_26, e0_27, e0_28, markPV]
   refine hM _ _ ?_
   clear hM M
   refine pops_done (hR13 _ ?_)
   clear hR13 R13
   try simp only [thenK, scopeK]
   refine hN12 _ ?_
   clear hN12 N12
   refine pwp_then fun N14 hN14 => ?_
   refine pwp_cond (by simp only [St.eval, upd_at, Nat.reduceEqDiff, if_true, if_false, e0_0, e0_1, e0_2, e0_26, e0_27, e0_28, markPV] <;> rfl) (fun c29 => ?_) (fun c29 => ?_)
   ·skip
    have hi : q < 2 := by have := of_decide_eq_true c29; omega
    obtain ⟨l, hl⟩ : ∃ l, [A, B][q]? = some l := ⟨_, List.getElem?_eq_getElem (by simpa using hi)⟩
    have hmem : l = A ∨ l = B := by simpa using List.mem_of_getElem? hl
    have hget : (rowsM [A, B])[q]? = some [.ro false 4 (l.map markPV)] := by simp only [rowsM, List.getElem?_map, hl, Option.map_some]
    have hll : l.length ≤ 1048576 := by rcases hmem with rfl | rfl <;> assumption
    have hpl : ∀ x ∈ l, x.path.length ≤ 9223372036854775807 := by rcases hmem with rfl | rfl <;> assumption
    have hw34 : IntKind.i64.wrap ((l.length : Int) - 1) = (l.length : Int) - 1 := wrap_i64 (by omega) (by omega)
    refine pwp_skip ?_
    try simp only [thenK, scopeK]
    refine hN14 _ ?_
    clear hN14 N14
    refine pwp_then fun N15 hN15 => ?_
    refine pwp_block ?_
    refine pwp_then fun N16 hN16 => ?_
    refine pwp_reg fun R17 hR17 => ?_
    refine pops_to rfl fun M hM => ?_
    simp only [pop, St.eval, constSlot, upd_at, Nat.reduceEqDiff, if_true, if_false, popIndexAddr, Tryz.underlying91, sz44, eq_self, true_and, and_true, str_list, str_size, str_app, str_cut, str_get, e0_0, e0_1, e0_2, e0_26, e0_27, e0_28, markPV, hget, Int.toNat_natCast]
    refine ⟨Int.natCast_nonneg _, hM _ _ ?_⟩
    clear hM M
    refine pops_to rfl fun M hM => ?_
    simp only [pop, St.eval, constSlot, upd_at, Nat.reduceEqDiff, if_true, if_false, popLoad, loadK, isAggD, List.drop_zero, List.getElem?_toArray, List.getElem?_cons_zero, List.getElem?_cons_succ, Bool.false_eq_true, Tryz.underlying44, sz44, eq_self, true_and, and_true, e0_0, e0_1, e0_2, e0_26, e0_27, e0_28, markPV]
    refine hM _ _ ?_
    clear hM M
    refine pops_mv (.inr rfl) rfl (by simp only [St.eval, upd_at, Nat.reduceEqDiff, if_true, if_false, e0_0, e0_1, e0_2, e0_26, e0_27, e0_28, markPV] <;> rfl) ?_
    refine pops_done (hR17 _ ?_)
    clear hR17 R17
    try simp only [thenK, scopeK]
    refine hN16 _ ?_
    clear hN16 N16
    refine pwp_then fun N18 hN18 => ?_
    refine pwp_reg fun R19 hR19 => ?_
    refine pops_mv (.inl rfl) rfl (by simp only [St.eval, upd_at, Nat.reduceEqDiff, if_true, if_false, e0_0, e0_1, e0_2, e0_26, e0_27, e0_28, markPV] <;> rfl) ?_
    refine pops_to rfl fun M hM => ?_
    simp only [pop, St.eval, constSlot, upd_at, Nat.reduceEqDiff, if_true, if_false, popCall, List.toList_toArray, List.map_cons, List.map_nil, popBuiltin, popLen, lenOfSlot, List.length_map, Tryz.underlying44, eq_self, true_and, and_true, str_list, str_size, str_app, str_cut, str_get, e0_0, e0_1, e0_2, e0_26, e0_27, e0_28, markPV, List.length_map]
    refine hM _ _ ?_
    clear hM M
    refine pops_to rfl fun M hM => ?_
    simp only [pop, St.eval, constSlot, upd_at, Nat.reduceEqDiff, if_true, if_false, popBin, binK, intK, strK, eqK, eq_self, true_and, and_true, e0_0, e0_1, e0_2, e0_26, e0_27, e0_28, markPV, hw34]
    refine hM _ _ ?_
    clear hM M
    refine pops_mv (.inl rfl) rfl (by simp only [St.eval, constSlot] <;> rfl) ?_
    refine pops_done (hR19 _ ?_)
    clear hR19 R19
    try simp only [thenK, scopeK]
    refine hN18 _ ?_
    clear hN18 N18
    refine pwp_block ?_
    refine pwp_loop (fun k σ => ∃ (j : Nat), (k = l.length - j) ∧ (j ≤ l.length) ∧ (∀ p ∈ (pairsM l).take j, ltP p = true) ∧ (Same h σ.hp) ∧ (σ.env 0 = .sv (.one (.ro false 4 (A.map markPV)))) ∧ (σ.env 1 = .sv (.one (.ro false 4 (B.map markPV)))) ∧ (σ.env 2 = .sv (.one (pint b))) ∧ (σ.env 26 = .sv (.one (.ro true 1 (rowsM [A, B])))) ∧ (σ.env 27 = .sv (.one (pint (2 : Nat)))) ∧ (σ.env 28 = .sv (.one (pint (q : Nat)))) ∧ (σ.env 9 = .sv (.one (.ro false 4 (l.map markPV)))) ∧ (σ.env 34 = .sv (.one (pint ((l.length : Int) - 1)))) ∧ (σ.env 35 = .sv (.one (pint (j : Nat))))) _ ⟨_, .refl _ _, 0, rfl, ?_⟩ ?_
    · exact ⟨Nat.zero_le _, by simp, sl0, by simp only [upd_at, Nat.reduceEqDiff, if_true, if_false, e0_0, e0_1, e0_2, e0_26, e0_27, e0_28, markPV], by simp only [upd_at, Nat.reduceEqDiff, if_true, if_false, e0_0, e0_1, e0_2, e0_26, e0_27, e0_28, markPV], by simp only [upd_at, Nat.reduceEqDiff, if_true, if_false, e0_0, e0_1, e0_2, e0_26, e0_27, e0_28, markPV], by simp only [upd_at, Nat.reduceEqDiff, if_true, if_false, e0_0, e0_1, e0_2, e0_26, e0_27, e0_28, markPV], by simp only [upd_at, Nat.reduceEqDiff, if_true, if_false, e0_0, e0_1, e0_2, e0_26, e0_27, e0_28, markPV], by simp only [upd_at, Nat.reduceEqDiff, if_true, if_false, e0_0, e0_1, e0_2, e0_26, e0_27, e0_28, markPV], by simp only [upd_at, Nat.reduceEqDiff, if_true, if_false, e0_0, e0_1, e0_2, e0_26, e0_27, e0_28, markPV], by simp only [upd_at, Nat.reduceEqDiff, if_true, if_false, e0_0, e0_1, e0_2, e0_26, e0_27, e0_28, markPV], by simp only [upd_at, Nat.reduceEqDiff, if_true, if_false] <;> rfl⟩
    ·rintro k ⟨e, hp1⟩ ⟨j, hk1, hx1_0, hx1_1, sl1, e1_0, e1_1, e1_2, e1_26, e1_27, e1_28, e1_9, e1_34, e1_35⟩
     simp only at sl1 e1_0 e1_1 e1_2 e1_26 e1_27 e1_28 e1_9 e1_34 e1_35
     refine pwp_then fun N20 hN20 => ?_
     refine pwp_reg fun R21 hR21 => ?_
     refine pops_to rfl fun M hM => ?_
     simp only [pop, St.eval, constSlot, upd_at, Nat.reduceEqDiff, if_true, if_false, popBin, binK, intK, strK, eqK, eq_self, true_and, and_true, e1_0, e1_1, e1_2, e1_26, e1_27, e1_28, e1_9, e1_34, e1_35, markPV]
     refine hM _ _ ?_
     clear hM M
     refine pops_done (hR21 _ ?_)
     clear hR21 R21
     try simp only [thenK, scopeK]
     refine hN20 _ ?_
     clear hN20 N20
     refine pwp_then fun N22 hN22 => ?_
     refine pwp_cond (by simp only [St.eval, upd_at, Nat.reduceEqDiff, if_true, if_false, e1_0, e1_1, e1_2, e1_26, e1_27, e1_28, e1_9, e1_34, e1_35, markPV] <;> rfl) (fun c36 => ?_) (fun c36 => ?_)
     ·skip
      have hj : j + 1 < l.length := by have := of_decide_eq_true c36; omega
      obtain ⟨x, hx⟩ : ∃ x, l[j]? = some x := ⟨_, List.getElem?_eq_getElem (by omega)⟩
      have hgx : (l.map markPV)[j]? = some [pstr x.path, pint x.size, pint x.time, pstr x.sum] := by simp only [List.getElem?_map, hx, Option.map_some]
      obtain ⟨y, hy⟩ : ∃ x, l[j + 1]? = some x := ⟨_, List.getElem?_eq_getElem (by omega)⟩
      have hgy : (l.map markPV)[j + 1]? = some [pstr y.path, pint y.size, pint y.time, pstr y.sum] := by simp only [List.getElem?_map, hy, Option.map_some]
      have hw45 := wrap_succ (i := j) (by omega)
      refine pwp_skip ?_
      try simp only [thenK, scopeK]
      refine hN22 _ ?_
      clear hN22 N22
      refine pwp_then fun N23 hN23 => ?_
      refine pwp_block ?_
      refine pwp_then fun N24 hN24 => ?_
      refine pwp_reg fun R25 hR25 => ?_
      refine pops_mv (.inl rfl) rfl (by simp only [St.eval, upd_at, Nat.reduceEqDiff, if_true, if_false, e1_0, e1_1, e1_2, e1_26, e1_27, e1_28, e1_9, e1_34, e1_35, markPV] <;> rfl) ?_
      refine pops_mv (.inr rfl) rfl (by simp only [St.eval, upd_at, Nat.reduceEqDiff, if_true, if_false, e1_0, e1_1, e1_2, e1_26, e1_27, e1_28, e1_9, e1_34, e1_35, markPV] <;> rfl) ?_
      refine pops_done (hR25 _ ?_)
      clear hR25 R25
      try simp only [thenK, scopeK]
      refine hN24 _ ?_
      clear hN24 N24
      refine pwp_then fun N26 hN26 => ?_
      refine pwp_dreg 13 mixed (by decide +kernel) fun R27 hR27 => ?_
      simp only [List.take_succ_cons, List.take_zero, List.drop_succ_cons, List.drop_zero]
      apply lex_to
      · rfl
      ·intro h' s' M hM
       simp only [pop, St.eval, constSlot, upd_at, Nat.reduceEqDiff, if_true, if_false, eq_self, true_and, and_true, str_list, str_size, str_app, str_cut, str_get, e1_0, e1_1, e1_2, e1_26, e1_27, e1_28, e1_9, e1_34, e1_35, markPV, s'.1]
       exact hM _ (.refl _)
      apply lex_to
      · rfl
      ·intro h' s' M hM
       simp only [pop, St.eval, constSlot, upd_at, Nat.reduceEqDiff, if_true, if_false, eq_self, true_and, and_true, str_list, str_size, str_app, str_cut, str_get, e1_0, e1_1, e1_2, e1_26, e1_27, e1_28, e1_9, e1_34, e1_35, markPV, s'.1]
       exact hM _ (.refl _)
      apply lex_to
      · rfl
      ·intro h' s' M hM
       simp only [pop, St.eval, constSlot, upd_at, Nat.reduceEqDiff, if_true, if_false, popIndexAddr, Tryz.underlying44, sz86, eq_self, true_and, and_true, str_list, str_size, str_app, str_cut, str_get, e1_0, e1_1, e1_2, e1_26, e1_27, e1_28, e1_9, e1_34, e1_35, markPV, hgx, Int.toNat_natCast, s'.1]
       refine ⟨Int.natCast_nonneg _, ?_⟩
       exact hM _ (.refl _)
      apply lex_to
      · rfl
      ·intro h' s' M hM
       simp only [pop, St.eval, constSlot, upd_at, Nat.reduceEqDiff, if_true, if_false, popFieldAddr, fieldOf, List.drop_succ_cons, List.drop_zero, List.getElem?_toArray, List.getElem?_cons_zero, List.getElem?_cons_succ, Tryz.underlying86, sz9, e1_0, e1_1, e1_2, e1_26, e1_27, e1_28, e1_9, e1_34, e1_35, markPV, s'.1]
       exact ⟨⟨_, rfl⟩, hM _ (.refl _)⟩
      apply lex_to
      · rfl
      ·intro h' s' M hM
       simp only [pop, St.eval, constSlot, upd_at, Nat.reduceEqDiff, if_true, if_false, popLoad, loadK, isAggD, List.drop_zero, List.getElem?_toArray, List.getElem?_cons_zero, List.getElem?_cons_succ, Bool.false_eq_true, Tryz.underlying9, sz9, eq_self, true_and, and_true, e1_0, e1_1, e1_2, e1_26, e1_27, e1_28, e1_9, e1_34, e1_35, markPV, s'.1]
       exact hM _ (.refl _)
      apply lex_to
      · rfl
      ·intro h' s' M hM
       simp only [pop, St.eval, constSlot, upd_at, Nat.reduceEqDiff, if_true, if_false, eq_self, true_and, and_true, str_list, str_size, str_app, str_cut, str_get, e1_0, e1_1, e1_2, e1_26, e1_27, e1_28, e1_9, e1_34, e1_35, markPV, s'.1]
       exact hM _ (.refl _)
      apply lex_to
      · rfl
      ·intro h' s' M hM
       simp only [pop, St.eval, constSlot, upd_at, Nat.reduceEqDiff, if_true, if_false, eq_self, true_and, and_true, str_list, str_size, str_app, str_cut, str_get, e1_0, e1_1, e1_2, e1_26, e1_27, e1_28, e1_9, e1_34, e1_35, markPV, s'.1]
       exact hM _ (.refl _)
      apply lex_to
      · rfl
      ·intro h' s' M hM
       simp only [pop, St.eval, constSlot, upd_at, Nat.reduceEqDiff, if_true, if_false, popBin, binK, intK, strK, eqK, eq_self, true_and, and_true, e1_0, e1_1, e1_2, e1_26, e1_27, e1_28, e1_9, e1_34, e1_35, markPV, hw45, s'.1]
       exact hM _ (.refl _)
      apply lex_to
      · rfl
      ·intro h' s' M hM
       simp only [pop, St.eval, constSlot, upd_at, Nat.reduceEqDiff, if_true, if_false, popIndexAddr, Tryz.underlying44, sz86, eq_self, true_and, and_true, str_list, str_size, str_app, str_cut, str_get, e1_0, e1_1, e1_2, e1_26, e1_27, e1_28, e1_9, e1_34, e1_35, markPV, hgy, Int.toNat_natCast, s'.1]
       refine ⟨Int.natCast_nonneg _, ?_⟩
       exact hM _ (.refl _)
      apply lex_to
      · rfl
      ·intro h' s' M hM
       simp only [pop, St.eval, constSlot, upd_at, Nat.reduceEqDiff, if_true, if_false, popFieldAddr, fieldOf, List.drop_succ_cons, List.drop_zero, List.getElem?_toArray, List.getElem?_cons_zero, List.getElem?_cons_succ, Tryz.underlying86, sz9, e1_0, e1_1, e1_2, e1_26, e1_27, e1_28, e1_9, e1_34, e1_35, markPV, s'.1]
       exact ⟨⟨_, rfl⟩, hM _ (.refl _)⟩
      apply lex_to
      · rfl
      ·intro h' s' M hM
       simp only [pop, St.eval, constSlot, upd_at, Nat.reduceEqDiff, if_true, if_false, popLoad, loadK, isAggD, List.drop_zero, List.getElem?_toArray, List.getElem?_cons_zero, List.getElem?_cons_succ, Bool.false_eq_true, Tryz.underlying9, sz9, eq_self, true_and, and_true, e1_0, e1_1, e1_2, e1_26, e1_27, e1_28, e1_9, e1_34, e1_35, markPV, s'.1]
       exact hM _ (.refl _)
      apply lex_to
      · rfl
      ·intro h' s' M hM
       simp only [pop, St.eval, constSlot, upd_at, Nat.reduceEqDiff, if_true, if_false, popCall, List.toList_toArray, List.map_cons, List.map_nil, svs, List.mapM_cons, List.mapM_nil, Option.bind_eq_bind, Option.bind_some, Option.pure_def, List.append_nil, List.cons_append, List.nil_append, str_size, e1_0, e1_1, e1_2, e1_26, e1_27, e1_28, e1_9, e1_34, e1_35, markPV, s'.1]
       refine PFun.use (order_fun W0 x.path y.path (hpl x (List.mem_of_getElem? hx)) (hpl y (List.mem_of_getElem? hy))) fun hp s => hM _ s
      apply lex_to
      · rfl
      ·intro h' s' M hM
       simp only [pop, St.eval, constSlot, upd_at, Nat.reduceEqDiff, if_true, if_false, popBin, binK, intK, strK, eqK, eq_self, true_and, and_true, e1_0, e1_1, e1_2, e1_26, e1_27, e1_28, e1_9, e1_34, e1_35, markPV, s'.1]
       exact hM _ (.refl _)
      refine lex_done fun hq sq => ?_
      replace sq := Same.trans sl1 sq
      refine pops_done (hR27 _ ?_)
      clear hR27 R27
      try simp only [thenK, scopeK]
      refine hN26 _ ?_
      clear hN26 N26
      refine pwp_cond (by simp only [St.eval, upd_at, Nat.reduceEqDiff, if_true, if_false, e1_0, e1_1, e1_2, e1_26, e1_27, e1_28, e1_9, e1_34, e1_35, markPV] <;> rfl) (fun c50 => ?_) (fun c50 => ?_)
      ·skip
       have hge := of_decide_eq_true c50
       have hbad := rises_bad hx hy (by omega)
       have hs : risesB A = false ∨ risesB B = false := by rcases hmem with rfl | rfl; exact .inl hbad; exact .inr hbad
       refine pwp_then fun N28 hN28 => ?_
       refine pwp_reg fun R29 hR29 => ?_
       refine pops_mv (.inr rfl) rfl (by simp only [St.eval, constSlot] <;> rfl) ?_
       refine pops_mv (.inr rfl) rfl (by simp only [St.eval, constSlot] <;> rfl) ?_
       refine pops_done (hR29 _ ?_)
       clear hR29 R29
       try simp only [thenK, scopeK]
       refine hN28 _ ?_
       clear hN28 N28
       refine pwp_ret ?_
       simp only [thenK, blockK, scopeK, bodyK]
       clear hN23 N23 hN15 N15 hN9 N9
       exact ⟨_, rfl, _, _, .refl _ _ _, .val (.slice none 0 0), by rw [chgsR, if_neg hr, if_pos hs], ⟨[], .inl ⟨rfl, rfl⟩, by rw [chgsR, if_neg hr, if_pos hs]; exact fun h => absurd h (by decide), fun _ => rfl⟩, sq⟩
      ·skip
       have hlt : ordR x.path y.path < 0 := by have := of_decide_eq_false c50; omega
       refine pwp_skip ?_
       try simp only [blockK, thenK, scopeK]
       try simp only [thenK, scopeK]
       refine hN23 _ ?_
       clear hN23 N23
       refine pwp_reg fun R30 hR30 => ?_
       refine pops_to rfl fun M hM => ?_
       simp only [pop, St.eval, constSlot, upd_at, Nat.reduceEqDiff, if_true, if_false, popBin, binK, intK, strK, eqK, eq_self, true_and, and_true, e1_0, e1_1, e1_2, e1_26, e1_27, e1_28, e1_9, e1_34, e1_35, markPV]
       refine hM _ _ ?_
       clear hM M
       refine pops_mv (.inl rfl) rfl (by simp only [St.eval, upd_at, Nat.reduceEqDiff, if_true, if_false, e1_0, e1_1, e1_2, e1_26, e1_27, e1_28, e1_9, e1_34, e1_35, markPV] <;> rfl) ?_
       refine pops_done (hR30 _ ?_)
       clear hR30 R30
       try simp only [thenK, scopeK]
       exact ⟨_, by omega, _, .refl _ _, j + 1, rfl, by omega, take_nextM hx1_1 (pairs_at hx hy) (decide_eq_true hlt), sq, by simp only [upd_at, Nat.reduceEqDiff, if_true, if_false, e1_0, e1_1, e1_2, e1_26, e1_27, e1_28, e1_9, e1_34, e1_35, markPV], by simp only [upd_at, Nat.reduceEqDiff, if_true, if_false, e1_0, e1_1, e1_2, e1_26, e1_27, e1_28, e1_9, e1_34, e1_35, markPV], by simp only [upd_at, Nat.reduceEqDiff, if_true, if_false, e1_0, e1_1, e1_2, e1_26, e1_27, e1_28, e1_9, e1_34, e1_35, markPV], by simp only [upd_at, Nat.reduceEqDiff, if_true, if_false, e1_0, e1_1, e1_2, e1_26, e1_27, e1_28, e1_9, e1_34, e1_35, markPV], by simp only [upd_at, Nat.reduceEqDiff, if_true, if_false, e1_0, e1_1, e1_2, e1_26, e1_27, e1_28, e1_9, e1_34, e1_35, markPV], by simp only [upd_at, Nat.reduceEqDiff, if_true, if_false, e1_0, e1_1, e1_2, e1_26, e1_27, e1_28, e1_9, e1_34, e1_35, markPV], by simp only [upd_at, Nat.reduceEqDiff, if_true, if_false, e1_0, e1_1, e1_2, e1_26, e1_27, e1_28, e1_9, e1_34, e1_35, markPV], by simp only [upd_at, Nat.reduceEqDiff, if_true, if_false, e1_0, e1_1, e1_2, e1_26, e1_27, e1_28, e1_9, e1_34, e1_35, markPV], by simp only [upd_at, Nat.reduceEqDiff, if_true, if_false, e1_35]; rw [wrap_succ (by omega)]⟩
     ·skip
      have hj := of_decide_eq_false c36
      have hrise : risesB l = true := rises_good (by rw [List.take_of_length_le (by rw [pairs_len]; omega)] at hx1_1; exact hx1_1)
      refine pwp_exit ?_
      try simp only [thenK, blockK, scopeK, if_true, Nat.reduceEqDiff, if_false]
      clear hN22 N22
      try simp only [blockK, scopeK, if_true, Nat.reduceEqDiff, if_false, thenK]
      try simp only [blockK, thenK, scopeK]
      try simp only [thenK, scopeK]
      refine hN15 _ ?_
      clear hN15 N15
      refine pwp_reg fun R31 hR31 => ?_
      refine pops_to rfl fun M hM => ?_
      simp only [pop, St.eval, constSlot, upd_at, Nat.reduceEqDiff, if_true, if_false, popBin, binK, intK, strK, eqK, eq_self, true_and, and_true, e1_0, e1_1, e1_2, e1_26, e1_27, e1_28, e1_9, e1_34, e1_35, markPV]
      refine hM _ _ ?_
      clear hM M
      refine pops_mv (.inl rfl) rfl (by simp only [St.eval, upd_at, Nat.reduceEqDiff, if_true, if_false, e1_0, e1_1, e1_2, e1_26, e1_27, e1_28, e1_9, e1_34, e1_35, markPV] <;> rfl) ?_
      refine pops_done (hR31 _ ?_)
      clear hR31 R31
      try simp only [thenK, scopeK]
      exact ⟨_, by omega, _, .refl _ _, q + 1, rfl, by omega, take_nextM hx0_1 hl hrise, sl1, by simp only [upd_at, Nat.reduceEqDiff, if_true, if_false, e1_0, e1_1, e1_2, e1_26, e1_27, e1_28, e1_9, e1_34, e1_35, markPV], by simp only [upd_at, Nat.reduceEqDiff, if_true, if_false, e1_0, e1_1, e1_2, e1_26, e1_27, e1_28, e1_9, e1_34, e1_35, markPV], by simp only [upd_at, Nat.reduceEqDiff, if_true, if_false, e1_0, e1_1, e1_2, e1_26, e1_27, e1_28, e1_9, e1_34, e1_35, markPV], by simp only [upd_at, Nat.reduceEqDiff, if_true, if_false, e1_0, e1_1, e1_2, e1_26, e1_27, e1_28, e1_9, e1_34, e1_35, markPV], by simp only [upd_at, Nat.reduceEqDiff, if_true, if_false, e1_0, e1_1, e1_2, e1_26, e1_27, e1_28, e1_9, e1_34, e1_35, markPV], by simp only [upd_at, Nat.reduceEqDiff, if_true, if_false, e0_28]; rw [wrap_succ (by omega)]⟩
   ·skip
    have hq := of_decide_eq_false c29
    have hAB : risesB A = true ∧ risesB B = true := by
      rw [List.take_of_length_le (by simp; omega)] at hx0_1
      exact ⟨hx0_1 A (by simp), hx0_1 B (by simp)⟩
    have hs : ¬ (risesB A = false ∨ risesB B = false) := by rw [hAB.1, hAB.2]; simp
    refine pwp_exit ?_
    try simp only [thenK, blockK, scopeK, if_true, Nat.reduceEqDiff, if_false]
    clear hN14 N14
    try simp only [blockK, scopeK, if_true, Nat.reduceEqDiff, if_false, thenK]
    try simp only [thenK, scopeK]
    refine hN9 _ ?_
    clear hN9 N9
    refine pwp_then fun N32 hN32 => ?_
    refine pwp_reg fun R33 hR33 => ?_
    refine pops_mv (.inr rfl) rfl (by simp only [St.eval, constSlot] <;> rfl) ?_
    refine pops_done (hR33 _ ?_)
    clear hR33 R33
    try simp only [thenK, scopeK]
    refine hN32 _ ?_
    clear hN32 N32
    refine pwp_then fun N34 hN34 => ?_
    refine pwp_reg fun R35 hR35 => ?_
    refine pops_mv (.inr rfl) rfl (by simp only [St.eval, constSlot] <;> rfl) ?_
    refine pops_done (hR35 _ ?_)
    clear hR35 R35
    try simp only [thenK, scopeK]
    refine hN34 _ ?_
    clear hN34 N34
    refine pwp_then fun N36 hN36 => ?_
    refine pwp_then fun N37 hN37 => ?_
    refine pwp_reg fun R38 hR38 => ?_
    refine pops_mv (.inl rfl) rfl (by simp only [St.eval, upd_at, Nat.reduceEqDiff, if_true, if_false, e0_0, e0_1, e0_2, e0_26, e0_27, e0_28, markPV] <;> rfl) ?_
    refine pops_to rfl fun M hM => ?_
    simp only [pop, St.eval, constSlot, upd_at, Nat.reduceEqDiff, if_true, if_false, popCall, List.toList_toArray, List.map_cons, List.map_nil, popBuiltin, popLen, lenOfSlot, List.length_map, Tryz.underlying44, eq_self, true_and, and_true, str_list, str_size, str_app, str_cut, str_get, e0_0, e0_1, e0_2, e0_26, e0_27, e0_28, markPV, List.length_map]
    refine hM _ _ ?_
    clear hM M
    refine pops_mv (.inl rfl) rfl (by simp only [St.eval, constSlot] <;> rfl) ?_
    refine pops_done (hR38 _ ?_)
    clear hR38 R38
    try simp only [thenK, scopeK]
    refine hN37 _ ?_
    clear hN37 N37
    refine pwp_block ?_
    refine pwp_loop (fun k σ => ∃ (i : Nat), ∃ (sl : Slot), (k = B.length - i) ∧ (i ≤ B.length) ∧ (Keeps h σ.hp ∧ RowIs 90 2 h σ.hp sl ((foundB b A B i).map chgPV)) ∧ (σ.env 0 = .sv (.one (.ro false 4 (A.map markPV)))) ∧ (σ.env 1 = .sv (.one (.ro false 4 (B.map markPV)))) ∧ (σ.env 2 = .sv (.one (pint b))) ∧ (σ.env 11 = .sv (.one (.clo (.func 31) []))) ∧ (σ.env 12 = sl) ∧ (σ.env 53 = .sv (.one (.ro false 4 (B.map markPV)))) ∧ (σ.env 54 = .sv (.one (pint (B.length : Nat)))) ∧ (σ.env 55 = .sv (.one (pint (i : Nat))))) _ ⟨_, .refl _ _, 0, (.sv (.one (.val (.slice none 0 0)))), rfl, ?_⟩ ?_
    · exact ⟨Nat.zero_le _, ⟨Same.keeps sl0, .nil _ _ _ _⟩, by simp only [upd_at, Nat.reduceEqDiff, if_true, if_false, e0_0, e0_1, e0_2, e0_26, e0_27, e0_28, markPV], by simp only [upd_at, Nat.reduceEqDiff, if_true, if_false, e0_0, e0_1, e0_2, e0_26, e0_27, e0_28, markPV], by simp only [upd_at, Nat.reduceEqDiff, if_true, if_false, e0_0, e0_1, e0_2, e0_26, e0_27, e0_28, markPV], by simp only [upd_at, Nat.reduceEqDiff, if_true, if_false, e0_0, e0_1, e0_2, e0_26, e0_27, e0_28, markPV], by simp only [upd_at, Nat.reduceEqDiff, if_true, if_false] <;> rfl, by simp only [upd_at, Nat.reduceEqDiff, if_true, if_false, e0_0, e0_1, e0_2, e0_26, e0_27, e0_28, markPV], by simp only [upd_at, Nat.reduceEqDiff, if_true, if_false, e0_0, e0_1, e0_2, e0_26, e0_27, e0_28, markPV], by simp only [upd_at, Nat.reduceEqDiff, if_true, if_false] <;> rfl⟩
    ·rintro k ⟨e, hp2⟩ ⟨i, sl, hk2, hx2_0, sl2, e2_0, e2_1, e2_2, e2_11, e2_12, e2_53, e2_54, e2_55⟩
     simp only at sl2 e2_0 e2_1 e2_2 e2_11 e2_12 e2_53 e2_54 e2_55
     obtain ⟨hK, ho⟩ := sl2
     refine pwp_hpok fun hok2 => ?_
     simp only at hok2
     refine pwp_then fun N39 hN39 => ?_
     refine pwp_reg fun R40 hR40 => ?_
     refine pops_to rfl fun M hM => ?_
     simp only [pop, St.eval, constSlot, upd_at, Nat.reduceEqDiff, if_true, if_false, popBin, binK, intK, strK, eqK, eq_self, true_and, and_true, e2_0, e2_1, e2_2, e2_11, e2_12, e2_53, e2_54, e2_55, markPV]
     refine hM _ _ ?_
     clear hM M
     refine pops_done (hR40 _ ?_)
     clear hR40 R40
     try simp only [thenK, scopeK]
     refine hN39 _ ?_
     clear hN39 N39
     refine pwp_then fun N41 hN41 => ?_
     refine pwp_cond (by simp only [St.eval, upd_at, Nat.reduceEqDiff, if_true, if_false, e2_0, e2_1, e2_2, e2_11, e2_12, e2_53, e2_54, e2_55, markPV] <;> rfl) (fun c56 => ?_) (fun c56 => ?_)
     ·skip
      have hi : i < B.length := by have := of_decide_eq_true c56; omega
      obtain ⟨y, hy⟩ : ∃ x, B[i]? = some x := ⟨_, List.getElem?_eq_getElem (by omega)⟩
      have hgy : (B.map markPV)[i]? = some [pstr y.path, pint y.size, pint y.time, pstr y.sum] := by simp only [List.getElem?_map, hy, Option.map_some]
      refine pwp_skip ?_
      try simp only [thenK, scopeK]
      refine hN41 _ ?_
      clear hN41 N41
      refine pwp_then fun N42 hN42 => ?_
      refine pwp_block ?_
      refine pwp_then fun N43 hN43 => ?_
      refine pwp_reg fun R44 hR44 => ?_
      refine pops_to rfl fun M hM => ?_
      simp only [pop, St.eval, constSlot, upd_at, Nat.reduceEqDiff, if_true, if_false, popIndexAddr, Tryz.underlying44, sz86, eq_self, true_and, and_true, str_list, str_size, str_app, str_cut, str_get, e2_0, e2_1, e2_2, e2_11, e2_12, e2_53, e2_54, e2_55, markPV, hgy, Int.toNat_natCast]
      refine ⟨Int.natCast_nonneg _, hM _ _ ?_⟩
      clear hM M
      refine pops_to rfl fun M hM => ?_
      simp only [pop, St.eval, constSlot, upd_at, Nat.reduceEqDiff, if_true, if_false, List.length_cons, List.length_nil, Nat.zero_add, Nat.reduceAdd, Nat.reduceLeDiff, List.take_zero, List.take_succ_cons, List.take_nil, List.drop_succ_cons, List.drop_zero, List.drop_nil, List.nil_append, List.cons_append, List.append_nil, and_self, List.getElem?_cons_zero, List.getElem?_cons_succ, List.set_cons_zero, List.set_cons_succ, Option.some.injEq, popLoad, loadK, isAggD, List.drop_zero, List.getElem?_toArray, List.getElem?_cons_zero, List.getElem?_cons_succ, Bool.false_eq_true, Tryz.underlying86, sz86, eq_self, true_and, and_true, e2_0, e2_1, e2_2, e2_11, e2_12, e2_53, e2_54, e2_55, markPV]
      refine hM _ _ ?_
      clear hM M
      refine pops_var (hpOk.same hok2 (Same.refl _)) rfl ze86 (zs := [PV.val (.string ⟨#[]⟩), PV.val (.int .i64 0), PV.val (.int .i64 0), PV.val (.string ⟨#[]⟩)]) (by kernel_rfl) (by simp) (by simp only [St.eval, constSlot, slotCells, upd_at, Nat.reduceEqDiff, if_true, if_false, e2_0, e2_1, e2_2, e2_11, e2_12, e2_53, e2_54, e2_55, markPV] <;> rfl) (by rfl) (by exact Nat.succ_pos _) (by rw [sz86]; rfl) (fun hv45 sv45 => ?_)
      refine pops_done (hR44 _ ?_)
      clear hR44 R44
      try simp only [thenK, scopeK]
      refine hN43 _ ?_
      clear hN43 N43
      refine pwp_then fun N46 hN46 => ?_
      refine pwp_reg fun R47 hR47 => ?_
      refine pops_mv (.inl rfl) rfl (by simp only [St.eval, upd_at, Nat.reduceEqDiff, if_true, if_false, e2_0, e2_1, e2_2, e2_11, e2_12, e2_53, e2_54, e2_55, markPV] <;> rfl) ?_
      refine pops_mv (.inl rfl) rfl (by simp only [St.eval, upd_at, Nat.reduceEqDiff, if_true, if_false, e2_0, e2_1, e2_2, e2_11, e2_12, e2_53, e2_54, e2_55, markPV] <;> rfl) ?_
      refine pops_to rfl fun M hM => ?_
      simp only [pop, St.eval, constSlot, upd_at, Nat.reduceEqDiff, if_true, if_false, popFieldAddr, fieldOf, List.drop_succ_cons, List.drop_zero, List.getElem?_toArray, List.getElem?_cons_zero, List.getElem?_cons_succ, Tryz.underlying86, sz9, e2_0, e2_1, e2_2, e2_11, e2_12, e2_53, e2_54, e2_55, markPV]
      refine ⟨⟨_, rfl⟩, hM _ _ ?_⟩
      clear hM M
      refine pops_to rfl fun M hM => ?_
      simp only [pop, St.eval, constSlot, upd_at, Nat.reduceEqDiff, if_true, if_false, popLoad, loadK, isAggD, List.drop_zero, List.getElem?_toArray, List.getElem?_cons_zero, List.getElem?_cons_succ, Bool.false_eq_true, Tryz.underlying9, sz9, eq_self, true_and, and_true, e2_0, e2_1, e2_2, e2_11, e2_12, e2_53, e2_54, e2_55, markPV]
      refine hM _ _ ?_
      clear hM M
      refine pops_to rfl fun M hM => ?_
      simp only [pop, St.eval, constSlot, upd_at, Nat.reduceEqDiff, if_true, if_false, popCall, List.toList_toArray, List.map_cons, List.map_nil, svs, List.mapM_cons, List.mapM_nil, Option.bind_eq_bind, Option.bind_some, Option.pure_def, List.append_nil, List.cons_append, List.nil_append, str_size, e2_0, e2_1, e2_2, e2_11, e2_12, e2_53, e2_54, e2_55, markPV]
      refine PFun.use (find_fun W0 false A (by omega) y.path) fun h1 s1 => hM _ _ ?_
      replace s1 := Same.trans sv45 s1
      clear hM M
      refine pops_mv (.inr rfl) rfl (by simp only [St.eval, upd_at, Nat.reduceEqDiff, if_true, if_false, e2_0, e2_1, e2_2, e2_11, e2_12, e2_53, e2_54, e2_55, markPV] <;> rfl) ?_
      refine pops_done (hR47 _ ?_)
      clear hR47 R47
      try simp only [thenK, scopeK]
      refine hN46 _ ?_
      clear hN46 N46
      refine pwp_block ?_
      refine pwp_then fun N48 hN48 => ?_
      refine pwp_reg fun R49 hR49 => ?_
      refine pops_mv (.inl rfl) rfl (by simp only [St.eval, upd_at, Nat.reduceEqDiff, if_true, if_false, e2_0, e2_1, e2_2, e2_11, e2_12, e2_53, e2_54, e2_55, markPV] <;> rfl) ?_
      refine pops_to rfl fun M hM => ?_
      simp only [pop, St.eval, constSlot, upd_at, Nat.reduceEqDiff, if_true, if_false, popBin, binK, intK, strK, eqK, eq_self, true_and, and_true, e2_0, e2_1, e2_2, e2_11, e2_12, e2_53, e2_54, e2_55, markPV]
      refine hM _ _ ?_
      clear hM M
      refine pops_mv (.inr rfl) rfl (by simp only [St.eval, upd_at, Nat.reduceEqDiff, if_true, if_false, e2_0, e2_1, e2_2, e2_11, e2_12, e2_53, e2_54, e2_55, markPV] <;> rfl) ?_
      refine pops_done (hR49 _ ?_)
      clear hR49 R49
      try simp only [thenK, scopeK]
      refine hN48 _ ?_
      clear hN48 N48
      refine pwp_cond (by simp only [St.eval, upd_at, Nat.reduceEqDiff, if_true, if_false, e2_0, e2_1, e2_2, e2_11, e2_12, e2_53, e2_54, e2_55, markPV] <;> rfl) (fun c64 => ?_) (fun c64 => ?_)
      ·skip
       have hlt0 := of_decide_eq_true c64
       have hpart := bPart_1 (b := b) hlt0
       refine pwp_reg fun R50 hR50 => ?_
       refine pops_mv (.inl rfl) rfl (by simp only [St.eval, upd_at, Nat.reduceEqDiff, if_true, if_false, e2_0, e2_1, e2_2, e2_11, e2_12, e2_53, e2_54, e2_55, markPV] <;> rfl) ?_
       refine pops_to rfl fun M hM => ?_
       simp only [pop, St.eval, constSlot, upd_at, Nat.reduceEqDiff, if_true, if_false, popFieldAddr, fieldOf, List.drop_succ_cons, List.drop_zero, List.getElem?_toArray, List.getElem?_cons_zero, List.getElem?_cons_succ, Tryz.underlying86, sz9, e2_0, e2_1, e2_2, e2_11, e2_12, e2_53, e2_54, e2_55, markPV]
       refine ⟨⟨_, rfl⟩, hM _ _ ?_⟩
       clear hM M
       refine pops_to rfl fun M hM => ?_
       simp only [pop, St.eval, constSlot, upd_at, Nat.reduceEqDiff, if_true, if_false, popLoad, loadK, isAggD, List.drop_zero, List.getElem?_toArray, List.getElem?_cons_zero, List.getElem?_cons_succ, Bool.false_eq_true, Tryz.underlying9, sz9, eq_self, true_and, and_true, e2_0, e2_1, e2_2, e2_11, e2_12, e2_53, e2_54, e2_55, markPV]
       refine hM _ _ ?_
       clear hM M
       refine pops_to rfl fun M hM => ?_
       simp only [pop, St.eval, constSlot, upd_at, Nat.reduceEqDiff, if_true, if_false, fillP, slotCells, splice, List.toList_toArray, List.map_cons, List.map_nil, List.length_cons, List.length_nil, Nat.zero_add, Nat.reduceAdd, Nat.reduceLeDiff, List.take_zero, List.take_succ_cons, List.take_nil, List.drop_succ_cons, List.drop_zero, List.drop_nil, List.nil_append, List.cons_append, List.append_nil, and_self, List.getElem?_cons_zero, List.getElem?_cons_succ, List.set_cons_zero, List.set_cons_succ, Option.some.injEq, bd90, eq_self, true_and, and_true, str_list, str_size, str_app, str_cut, str_get, e2_0, e2_1, e2_2, e2_11, e2_12, e2_53, e2_54, e2_55, markPV]
       refine hM _ _ ?_
       clear hM M
       refine pops_to rfl fun M hM => ?_
       simp only [pop, St.eval, constSlot, upd_at, Nat.reduceEqDiff, if_true, if_false, popBuildSlice, slotCells, List.toList_toArray, List.map_cons, List.map_nil, List.mapM_cons, List.mapM_nil, Option.bind_eq_bind, Option.bind_some, Option.pure_def, Tryz.underlying45, sz90, ze90, by90, eq_self, true_and, and_true, str_list, str_size, str_app, str_cut, str_get, e2_0, e2_1, e2_2, e2_11, e2_12, e2_53, e2_54, e2_55, markPV]
       refine ⟨by decide, by decide, rfl, rfl, by simp, by decide, rfl, hM _ _ ?_⟩
       clear hM M
       refine pops_to rfl fun M hM => ?_
       simp only [pop, St.eval, constSlot, upd_at, Nat.reduceEqDiff, if_true, if_false, popCall, List.toList_toArray, List.map_cons, List.map_nil, popBuiltin, eq_self, true_and, and_true, str_list, str_size, str_app, str_cut, str_get, e2_0, e2_1, e2_2, e2_11, e2_12, e2_53, e2_54, e2_55, markPV]
       have hln := foundB_len b A B i
       refine row_app (ys := [chgPV (1, y.path)]) hb Tryz.underlying45 sz90 by90 ze90 rfl (by decide) (ho.same s1) (hK.trans (Same.keeps s1)) rfl (.inr rfl) ⟨by simp only [List.length_map, List.length_cons, List.length_nil]; omega, by simp only [List.length_map, List.length_cons, List.length_nil]; omega⟩ fun sl2 hp2 ho2 hk2 => hM _ _ ?_
       clear hM M
       refine pops_mv (.inr rfl) rfl (by simp only [St.eval, upd_at, Nat.reduceEqDiff, if_true, if_false, e2_0, e2_1, e2_2, e2_11, e2_12, e2_53, e2_54, e2_55, markPV] <;> rfl) ?_
       refine pops_done (hR50 _ ?_)
       clear hR50 R50
       try simp only [blockK, thenK, scopeK]
       try simp only [blockK, thenK, scopeK]
       try simp only [thenK, scopeK]
       refine hN42 _ ?_
       clear hN42 N42
       refine pwp_reg fun R51 hR51 => ?_
       refine pops_to rfl fun M hM => ?_
       simp only [pop, St.eval, constSlot, upd_at, Nat.reduceEqDiff, if_true, if_false, popBin, binK, intK, strK, eqK, eq_self, true_and, and_true, e2_0, e2_1, e2_2, e2_11, e2_12, e2_53, e2_54, e2_55, markPV]
       refine hM _ _ ?_
       clear hM M
       refine pops_mv (.inl rfl) rfl (by simp only [St.eval, upd_at, Nat.reduceEqDiff, if_true, if_false, e2_0, e2_1, e2_2, e2_11, e2_12, e2_53, e2_54, e2_55, markPV] <;> rfl) ?_
       refine pops_done (hR51 _ ?_)
       clear hR51 R51
       try simp only [thenK, scopeK]
       exact ⟨_, by omega, _, .refl _ _, i + 1, sl2, rfl, by omega, ⟨hk2, by rw [foundB_step hy, hpart, List.map_append]; exact ho2⟩, by simp only [upd_at, Nat.reduceEqDiff, if_true, if_false, e2_0, e2_1, e2_2, e2_11, e2_12, e2_53, e2_54, e2_55, markPV], by simp only [upd_at, Nat.reduceEqDiff, if_true, if_false, e2_0, e2_1, e2_2, e2_11, e2_12, e2_53, e2_54, e2_55, markPV], by simp only [upd_at, Nat.reduceEqDiff, if_true, if_false, e2_0, e2_1, e2_2, e2_11, e2_12, e2_53, e2_54, e2_55, markPV], by simp only [upd_at, Nat.reduceEqDiff, if_true, if_false, e2_0, e2_1, e2_2, e2_11, e2_12, e2_53, e2_54, e2_55, markPV], by simp only [upd_at, Nat.reduceEqDiff, if_true, if_false, e2_0, e2_1, e2_2, e2_11, e2_12, e2_53, e2_54, e2_55, markPV], by simp only [upd_at, Nat.reduceEqDiff, if_true, if_false, e2_0, e2_1, e2_2, e2_11, e2_12, e2_53, e2_54, e2_55, markPV], by simp only [upd_at, Nat.reduceEqDiff, if_true, if_false, e2_0, e2_1, e2_2, e2_11, e2_12, e2_53, e2_54, e2_55, markPV], by simp only [upd_at, Nat.reduceEqDiff, if_true, if_false, e2_55]; rw [wrap_succ (by omega)]⟩
      ·skip
       obtain ⟨k, x, hkx, hx⟩ := find_at (of_decide_eq_false c64)
       have hgk : (A.map markPV)[k]? = some [pstr x.path, pint x.size, pint x.time, pstr x.sum] := by simp only [List.getElem?_map, hx, Option.map_some]
       refine pwp_then fun N52 hN52 => ?_
       refine pwp_dreg 8 mixed (by decide +kernel) fun R53 hR53 => ?_
       simp only [List.take_succ_cons, List.take_zero, List.drop_succ_cons, List.drop_zero]
       apply lex_to
       · rfl
       ·intro h' s' M hM
        simp only [pop, St.eval, constSlot, upd_at, Nat.reduceEqDiff, if_true, if_false, eq_self, true_and, and_true, str_list, str_size, str_app, str_cut, str_get, e2_0, e2_1, e2_2, e2_11, e2_12, e2_53, e2_54, e2_55, markPV, s'.1]
        exact hM _ (.refl _)
       apply lex_to
       · rfl
       ·intro h' s' M hM
        simp only [pop, St.eval, constSlot, upd_at, Nat.reduceEqDiff, if_true, if_false, eq_self, true_and, and_true, str_list, str_size, str_app, str_cut, str_get, e2_0, e2_1, e2_2, e2_11, e2_12, e2_53, e2_54, e2_55, markPV, s'.1]
        exact hM _ (.refl _)
       apply lex_to
       · rfl
       ·intro h' s' M hM
        simp only [pop, St.eval, constSlot, upd_at, Nat.reduceEqDiff, if_true, if_false, popIndexAddr, Tryz.underlying44, sz86, eq_self, true_and, and_true, str_list, str_size, str_app, str_cut, str_get, e2_0, e2_1, e2_2, e2_11, e2_12, e2_53, e2_54, e2_55, markPV, hkx, hgk, Int.toNat_natCast, s'.1]
        refine ⟨Int.natCast_nonneg _, ?_⟩
        exact hM _ (.refl _)
       apply lex_to
       · rfl
       ·intro h' s' M hM
        simp only [pop, St.eval, constSlot, upd_at, Nat.reduceEqDiff, if_true, if_false, List.length_cons, List.length_nil, Nat.zero_add, Nat.reduceAdd, Nat.reduceLeDiff, List.take_zero, List.take_succ_cons, List.take_nil, List.drop_succ_cons, List.drop_zero, List.drop_nil, List.nil_append, List.cons_append, List.append_nil, and_self, List.getElem?_cons_zero, List.getElem?_cons_succ, List.set_cons_zero, List.set_cons_succ, Option.some.injEq, popLoad, loadK, isAggD, List.drop_zero, List.getElem?_toArray, List.getElem?_cons_zero, List.getElem?_cons_succ, Bool.false_eq_true, Tryz.underlying86, sz86, eq_self, true_and, and_true, e2_0, e2_1, e2_2, e2_11, e2_12, e2_53, e2_54, e2_55, markPV, s'.1]
        exact hM _ (.refl _)
       apply lex_to
       · rfl
       ·intro h' s' M hM
        simp only [pop, St.eval, constSlot, upd_at, Nat.reduceEqDiff, if_true, if_false, List.length_cons, List.length_nil, Nat.zero_add, Nat.reduceAdd, Nat.reduceLeDiff, List.take_zero, List.take_succ_cons, List.take_nil, List.drop_succ_cons, List.drop_zero, List.drop_nil, List.nil_append, List.cons_append, List.append_nil, and_self, List.getElem?_cons_zero, List.getElem?_cons_succ, List.set_cons_zero, List.set_cons_succ, Option.some.injEq, popLoad, loadK, isAggD, List.drop_zero, List.getElem?_toArray, List.getElem?_cons_zero, List.getElem?_cons_succ, Bool.false_eq_true, Tryz.underlying86, sz86, eq_self, true_and, and_true, e2_0, e2_1, e2_2, e2_11, e2_12, e2_53, e2_54, e2_55, markPV, s'.1]
        exact hM _ (.refl _)
       apply lex_to
       · rfl
       ·intro h' s' M hM
        simp only [pop, St.eval, constSlot, upd_at, Nat.reduceEqDiff, if_true, if_false, eq_self, true_and, and_true, str_list, str_size, str_app, str_cut, str_get, e2_0, e2_1, e2_2, e2_11, e2_12, e2_53, e2_54, e2_55, markPV, s'.1]
        exact hM _ (.refl _)
       apply lex_to
       · rfl
       ·intro h' s' M hM
        simp only [pop, St.eval, constSlot, upd_at, Nat.reduceEqDiff, if_true, if_false, popCall, List.toList_toArray, List.map_cons, List.map_nil, svs, List.mapM_cons, List.mapM_nil, Option.bind_eq_bind, Option.bind_some, Option.pure_def, List.append_nil, List.cons_append, List.nil_append, str_size, e2_0, e2_1, e2_2, e2_11, e2_12, e2_53, e2_54, e2_55, markPV, s'.1]
        refine PFun.use (differRef_fun W0 x y b) fun hp s => hM _ s
       apply lex_to
       · rfl
       ·intro h' s' M hM
        simp only [pop, St.eval, constSlot, upd_at, Nat.reduceEqDiff, if_true, if_false, eq_self, true_and, and_true, str_list, str_size, str_app, str_cut, str_get, e2_0, e2_1, e2_2, e2_11, e2_12, e2_53, e2_54, e2_55, markPV, s'.1]
        exact hM _ (.refl _)
       refine lex_done fun hq2 sq2 => ?_
       replace sq2 := Same.trans s1 sq2
       refine pops_done (hR53 _ ?_)
       clear hR53 R53
       try simp only [thenK, scopeK]
       refine hN52 _ ?_
       clear hN52 N52
       refine pwp_cond (by simp only [St.eval, upd_at, Nat.reduceEqDiff, if_true, if_false, e2_0, e2_1, e2_2, e2_11, e2_12, e2_53, e2_54, e2_55, markPV] <;> rfl) (fun c73 => ?_) (fun c73 => ?_)
       ·skip
        have hpart := bPart_2 hkx hx c73
        refine pwp_reg fun R54 hR54 => ?_
        refine pops_mv (.inl rfl) rfl (by simp only [St.eval, upd_at, Nat.reduceEqDiff, if_true, if_false, e2_0, e2_1, e2_2, e2_11, e2_12, e2_53, e2_54, e2_55, markPV] <;> rfl) ?_
        refine pops_to rfl fun M hM => ?_
        simp only [pop, St.eval, constSlot, upd_at, Nat.reduceEqDiff, if_true, if_false, popFieldAddr, fieldOf, List.drop_succ_cons, List.drop_zero, List.getElem?_toArray, List.getElem?_cons_zero, List.getElem?_cons_succ, Tryz.underlying86, sz9, e2_0, e2_1, e2_2, e2_11, e2_12, e2_53, e2_54, e2_55, markPV]
        refine ⟨⟨_, rfl⟩, hM _ _ ?_⟩
        clear hM M
        refine pops_to rfl fun M hM => ?_
        simp only [pop, St.eval, constSlot, upd_at, Nat.reduceEqDiff, if_true, if_false, popLoad, loadK, isAggD, List.drop_zero, List.getElem?_toArray, List.getElem?_cons_zero, List.getElem?_cons_succ, Bool.false_eq_true, Tryz.underlying9, sz9, eq_self, true_and, and_true, e2_0, e2_1, e2_2, e2_11, e2_12, e2_53, e2_54, e2_55, markPV]
        refine hM _ _ ?_
        clear hM M
        refine pops_to rfl fun M hM => ?_
        simp only [pop, St.eval, constSlot, upd_at, Nat.reduceEqDiff, if_true, if_false, fillP, slotCells, splice, List.toList_toArray, List.map_cons, List.map_nil, List.length_cons, List.length_nil, Nat.zero_add, Nat.reduceAdd, Nat.reduceLeDiff, List.take_zero, List.take_succ_cons, List.take_nil, List.drop_succ_cons, List.drop_zero, List.drop_nil, List.nil_append, List.cons_append, List.append_nil, and_self, List.getElem?_cons_zero, List.getElem?_cons_succ, List.set_cons_zero, List.set_cons_succ, Option.some.injEq, bd90, eq_self, true_and, and_true, str_list, str_size, str_app, str_cut, str_get, e2_0, e2_1, e2_2, e2_11, e2_12, e2_53, e2_54, e2_55, markPV]
        refine hM _ _ ?_
        clear hM M
        refine pops_to rfl fun M hM => ?_
        simp only [pop, St.eval, constSlot, upd_at, Nat.reduceEqDiff, if_true, if_false, popBuildSlice, slotCells, List.toList_toArray, List.map_cons, List.map_nil, List.mapM_cons, List.mapM_nil, Option.bind_eq_bind, Option.bind_some, Option.pure_def, Tryz.underlying45, sz90, ze90, by90, eq_self, true_and, and_true, str_list, str_size, str_app, str_cut, str_get, e2_0, e2_1, e2_2, e2_11, e2_12, e2_53, e2_54, e2_55, markPV]
        refine ⟨by decide, by decide, rfl, rfl, by simp, by decide, rfl, hM _ _ ?_⟩
        clear hM M
        refine pops_to rfl fun M hM => ?_
        simp only [pop, St.eval, constSlot, upd_at, Nat.reduceEqDiff, if_true, if_false, popCall, List.toList_toArray, List.map_cons, List.map_nil, popBuiltin, eq_self, true_and, and_true, str_list, str_size, str_app, str_cut, str_get, e2_0, e2_1, e2_2, e2_11, e2_12, e2_53, e2_54, e2_55, markPV]
        have hln := foundB_len b A B i
        refine row_app (ys := [chgPV (2, y.path)]) hb Tryz.underlying45 sz90 by90 ze90 rfl (by decide) (ho.same sq2) (hK.trans (Same.keeps sq2)) rfl (.inr rfl) ⟨by simp only [List.length_map, List.length_cons, List.length_nil]; omega, by simp only [List.length_map, List.length_cons, List.length_nil]; omega⟩ fun sl2 hp2 ho2 hk2 => hM _ _ ?_
        clear hM M
        refine pops_mv (.inr rfl) rfl (by simp only [St.eval, upd_at, Nat.reduceEqDiff, if_true, if_false, e2_0, e2_1, e2_2, e2_11, e2_12, e2_53, e2_54, e2_55, markPV] <;> rfl) ?_
        refine pops_done (hR54 _ ?_)
        clear hR54 R54
        try simp only [blockK, thenK, scopeK]
        try simp only [blockK, thenK, scopeK]
        try simp only [thenK, scopeK]
        refine hN42 _ ?_
        clear hN42 N42
        refine pwp_reg fun R55 hR55 => ?_
        refine pops_to rfl fun M hM => ?_
        simp only [pop, St.eval, constSlot, upd_at, Nat.reduceEqDiff, if_true, if_false, popBin, binK, intK, strK, eqK, eq_self, true_and, and_true, e2_0, e2_1, e2_2, e2_11, e2_12, e2_53, e2_54, e2_55, markPV]
        refine hM _ _ ?_
        clear hM M
        refine pops_mv (.inl rfl) rfl (by simp only [St.eval, upd_at, Nat.reduceEqDiff, if_true, if_false, e2_0, e2_1, e2_2, e2_11, e2_12, e2_53, e2_54, e2_55, markPV] <;> rfl) ?_
        refine pops_done (hR55 _ ?_)
        clear hR55 R55
        try simp only [thenK, scopeK]
        exact ⟨_, by omega, _, .refl _ _, i + 1, sl2, rfl, by omega, ⟨hk2, by rw [foundB_step hy, hpart, List.map_append]; exact ho2⟩, by simp only [upd_at, Nat.reduceEqDiff, if_true, if_false, e2_0, e2_1, e2_2, e2_11, e2_12, e2_53, e2_54, e2_55, markPV], by simp only [upd_at, Nat.reduceEqDiff, if_true, if_false, e2_0, e2_1, e2_2, e2_11, e2_12, e2_53, e2_54, e2_55, markPV], by simp only [upd_at, Nat.reduceEqDiff, if_true, if_false, e2_0, e2_1, e2_2, e2_11, e2_12, e2_53, e2_54, e2_55, markPV], by simp only [upd_at, Nat.reduceEqDiff, if_true, if_false, e2_0, e2_1, e2_2, e2_11, e2_12, e2_53, e2_54, e2_55, markPV], by simp only [upd_at, Nat.reduceEqDiff, if_true, if_false, e2_0, e2_1, e2_2, e2_11, e2_12, e2_53, e2_54, e2_55, markPV], by simp only [upd_at, Nat.reduceEqDiff, if_true, if_false, e2_0, e2_1, e2_2, e2_11, e2_12, e2_53, e2_54, e2_55, markPV], by simp only [upd_at, Nat.reduceEqDiff, if_true, if_false, e2_0, e2_1, e2_2, e2_11, e2_12, e2_53, e2_54, e2_55, markPV], by simp only [upd_at, Nat.reduceEqDiff, if_true, if_false, e2_55]; rw [wrap_succ (by omega)]⟩
       ·skip
        have hpart := bPart_0 hkx hx c73
        refine pwp_skip ?_
        try simp only [blockK, thenK, scopeK]
        try simp only [blockK, thenK, scopeK]
        try simp only [thenK, scopeK]
        refine hN42 _ ?_
        clear hN42 N42
        refine pwp_reg fun R56 hR56 => ?_
        refine pops_to rfl fun M hM => ?_
        simp only [pop, St.eval, constSlot, upd_at, Nat.reduceEqDiff, if_true, if_false, popBin, binK, intK, strK, eqK, eq_self, true_and, and_true, e2_0, e2_1, e2_2, e2_11, e2_12, e2_53, e2_54, e2_55, markPV]
        refine hM _ _ ?_
        clear hM M
        refine pops_mv (.inl rfl) rfl (by simp only [St.eval, upd_at, Nat.reduceEqDiff, if_true, if_false, e2_0, e2_1, e2_2, e2_11, e2_12, e2_53, e2_54, e2_55, markPV] <;> rfl) ?_
        refine pops_done (hR56 _ ?_)
        clear hR56 R56
        try simp only [thenK, scopeK]
        exact ⟨_, by omega, _, .refl _ _, i + 1, sl, rfl, by omega, ⟨hK.trans (Same.keeps sq2), by rw [foundB_step hy, hpart, List.append_nil]; exact ho.same sq2⟩, by simp only [upd_at, Nat.reduceEqDiff, if_true, if_false, e2_0, e2_1, e2_2, e2_11, e2_12, e2_53, e2_54, e2_55, markPV], by simp only [upd_at, Nat.reduceEqDiff, if_true, if_false, e2_0, e2_1, e2_2, e2_11, e2_12, e2_53, e2_54, e2_55, markPV], by simp only [upd_at, Nat.reduceEqDiff, if_true, if_false, e2_0, e2_1, e2_2, e2_11, e2_12, e2_53, e2_54, e2_55, markPV], by simp only [upd_at, Nat.reduceEqDiff, if_true, if_false, e2_0, e2_1, e2_2, e2_11, e2_12, e2_53, e2_54, e2_55, markPV], by simp only [upd_at, Nat.reduceEqDiff, if_true, if_false, e2_0, e2_1, e2_2, e2_11, e2_12, e2_53, e2_54, e2_55, markPV], by simp only [upd_at, Nat.reduceEqDiff, if_true, if_false, e2_0, e2_1, e2_2, e2_11, e2_12, e2_53, e2_54, e2_55, markPV], by simp only [upd_at, Nat.reduceEqDiff, if_true, if_false, e2_0, e2_1, e2_2, e2_11, e2_12, e2_53, e2_54, e2_55, markPV], by simp only [upd_at, Nat.reduceEqDiff, if_true, if_false, e2_55]; rw [wrap_succ (by omega)]⟩
     ·skip
      obtain rfl : i = B.length := by have := of_decide_eq_false c56; omega
      refine pwp_exit ?_
      try simp only [thenK, blockK, scopeK, if_true, Nat.reduceEqDiff, if_false]
      clear hN41 N41
      try simp only [blockK, scopeK, if_true, Nat.reduceEqDiff, if_false, thenK]
      try simp only [thenK, scopeK]
      refine hN36 _ ?_
      clear hN36 N36
      refine pwp_then fun N57 hN57 => ?_
      refine pwp_then fun N58 hN58 => ?_
      refine pwp_reg fun R59 hR59 => ?_
      refine pops_mv (.inl rfl) rfl (by simp only [St.eval, upd_at, Nat.reduceEqDiff, if_true, if_false, e2_0, e2_1, e2_2, e2_11, e2_12, e2_53, e2_54, e2_55, markPV] <;> rfl) ?_
      refine pops_to rfl fun M hM => ?_
      simp only [pop, St.eval, constSlot, upd_at, Nat.reduceEqDiff, if_true, if_false, popCall, List.toList_toArray, List.map_cons, List.map_nil, popBuiltin, popLen, lenOfSlot, List.length_map, Tryz.underlying44, eq_self, true_and, and_true, str_list, str_size, str_app, str_cut, str_get, e2_0, e2_1, e2_2, e2_11, e2_12, e2_53, e2_54, e2_55, markPV, List.length_map]
      refine hM _ _ ?_
      clear hM M
      refine pops_mv (.inl rfl) rfl (by simp only [St.eval, constSlot] <;> rfl) ?_
      refine pops_done (hR59 _ ?_)
      clear hR59 R59
      try simp only [thenK, scopeK]
      refine hN58 _ ?_
      clear hN58 N58
      refine pwp_block ?_
      refine pwp_loop (fun k σ => ∃ (i : Nat), ∃ (sl : Slot), (k = A.length - i) ∧ (i ≤ A.length) ∧ (Keeps h σ.hp ∧ RowIs 90 2 h σ.hp sl ((foundA b A B i).map chgPV)) ∧ (σ.env 0 = .sv (.one (.ro false 4 (A.map markPV)))) ∧ (σ.env 1 = .sv (.one (.ro false 4 (B.map markPV)))) ∧ (σ.env 2 = .sv (.one (pint b))) ∧ (σ.env 11 = .sv (.one (.clo (.func 31) []))) ∧ (σ.env 12 = sl) ∧ (σ.env 88 = .sv (.one (.ro false 4 (A.map markPV)))) ∧ (σ.env 89 = .sv (.one (pint (A.length : Nat)))) ∧ (σ.env 90 = .sv (.one (pint (i : Nat))))) _ ⟨_, .refl _ _, 0, sl, rfl, ?_⟩ ?_
      · exact ⟨Nat.zero_le _, ⟨hK, by simpa [foundA] using ho⟩, by simp only [upd_at, Nat.reduceEqDiff, if_true, if_false, e2_0, e2_1, e2_2, e2_11, e2_12, e2_53, e2_54, e2_55, markPV], by simp only [upd_at, Nat.reduceEqDiff, if_true, if_false, e2_0, e2_1, e2_2, e2_11, e2_12, e2_53, e2_54, e2_55, markPV], by simp only [upd_at, Nat.reduceEqDiff, if_true, if_false, e2_0, e2_1, e2_2, e2_11, e2_12, e2_53, e2_54, e2_55, markPV], by simp only [upd_at, Nat.reduceEqDiff, if_true, if_false, e2_0, e2_1, e2_2, e2_11, e2_12, e2_53, e2_54, e2_55, markPV], by simp only [upd_at, Nat.reduceEqDiff, if_true, if_false, e2_0, e2_1, e2_2, e2_11, e2_12, e2_53, e2_54, e2_55, markPV], by simp only [upd_at, Nat.reduceEqDiff, if_true, if_false, e2_0, e2_1, e2_2, e2_11, e2_12, e2_53, e2_54, e2_55, markPV], by simp only [upd_at, Nat.reduceEqDiff, if_true, if_false, e2_0, e2_1, e2_2, e2_11, e2_12, e2_53, e2_54, e2_55, markPV], by simp only [upd_at, Nat.reduceEqDiff, if_true, if_false] <;> rfl⟩
      ·rintro k ⟨e, hp3⟩ ⟨i, sl, hk3, hx3_0, sl3, e3_0, e3_1, e3_2, e3_11, e3_12, e3_88, e3_89, e3_90⟩
       simp only at sl3 e3_0 e3_1 e3_2 e3_11 e3_12 e3_88 e3_89 e3_90
       obtain ⟨hK, ho⟩ := sl3
       refine pwp_hpok fun hok3 => ?_
       simp only at hok3
       refine pwp_then fun N60 hN60 => ?_
       refine pwp_reg fun R61 hR61 => ?_
       refine pops_to rfl fun M hM => ?_
       simp only [pop, St.eval, constSlot, upd_at, Nat.reduceEqDiff, if_true, if_false, popBin, binK, intK, strK, eqK, eq_self, true_and, and_true, e3_0, e3_1, e3_2, e3_11, e3_12, e3_88, e3_89, e3_90, markPV]
       refine hM _ _ ?_
       clear hM M
       refine pops_done (hR61 _ ?_)
       clear hR61 R61
       try simp only [thenK, scopeK]
       refine hN60 _ ?_
       clear hN60 N60
       refine pwp_then fun N62 hN62 => ?_
       refine pwp_cond (by simp only [St.eval, upd_at, Nat.reduceEqDiff, if_true, if_false, e3_0, e3_1, e3_2, e3_11, e3_12, e3_88, e3_89, e3_90, markPV] <;> rfl) (fun c91 => ?_) (fun c91 => ?_)
       ·skip
        have hi : i < A.length := by have := of_decide_eq_true c91; omega
        obtain ⟨x, hx⟩ : ∃ x, A[i]? = some x := ⟨_, List.getElem?_eq_getElem (by omega)⟩
        have hgx : (A.map markPV)[i]? = some [pstr x.path, pint x.size, pint x.time, pstr x.sum] := by simp only [List.getElem?_map, hx, Option.map_some]
        refine pwp_skip ?_
        try simp only [thenK, scopeK]
        refine hN62 _ ?_
        clear hN62 N62
        refine pwp_then fun N63 hN63 => ?_
        refine pwp_block ?_
        refine pwp_then fun N64 hN64 => ?_
        refine pwp_reg fun R65 hR65 => ?_
        refine pops_to rfl fun M hM => ?_
        simp only [pop, St.eval, constSlot, upd_at, Nat.reduceEqDiff, if_true, if_false, popIndexAddr, Tryz.underlying44, sz86, eq_self, true_and, and_true, str_list, str_size, str_app, str_cut, str_get, e3_0, e3_1, e3_2, e3_11, e3_12, e3_88, e3_89, e3_90, markPV, hgx, Int.toNat_natCast]
        refine ⟨Int.natCast_nonneg _, hM _ _ ?_⟩
        clear hM M
        refine pops_to rfl fun M hM => ?_
        simp only [pop, St.eval, constSlot, upd_at, Nat.reduceEqDiff, if_true, if_false, List.length_cons, List.length_nil, Nat.zero_add, Nat.reduceAdd, Nat.reduceLeDiff, List.take_zero, List.take_succ_cons, List.take_nil, List.drop_succ_cons, List.drop_zero, List.drop_nil, List.nil_append, List.cons_append, List.append_nil, and_self, List.getElem?_cons_zero, List.getElem?_cons_succ, List.set_cons_zero, List.set_cons_succ, Option.some.injEq, popLoad, loadK, isAggD, List.drop_zero, List.getElem?_toArray, List.getElem?_cons_zero, List.getElem?_cons_succ, Bool.false_eq_true, Tryz.underlying86, sz86, eq_self, true_and, and_true, e3_0, e3_1, e3_2, e3_11, e3_12, e3_88, e3_89, e3_90, markPV]
        refine hM _ _ ?_
        clear hM M
        refine pops_var (hpOk.same hok3 (Same.refl _)) rfl ze86 (zs := [PV.val (.string ⟨#[]⟩), PV.val (.int .i64 0), PV.val (.int .i64 0), PV.val (.string ⟨#[]⟩)]) (by kernel_rfl) (by simp) (by simp only [St.eval, constSlot, slotCells, upd_at, Nat.reduceEqDiff, if_true, if_false, e3_0, e3_1, e3_2, e3_11, e3_12, e3_88, e3_89, e3_90, markPV] <;> rfl) (by rfl) (by exact Nat.succ_pos _) (by rw [sz86]; rfl) (fun hv66 sv66 => ?_)
        refine pops_done (hR65 _ ?_)
        clear hR65 R65
        try simp only [thenK, scopeK]
        refine hN64 _ ?_
        clear hN64 N64
        refine pwp_then fun N67 hN67 => ?_
        refine pwp_reg fun R68 hR68 => ?_
        refine pops_mv (.inl rfl) rfl (by simp only [St.eval, upd_at, Nat.reduceEqDiff, if_true, if_false, e3_0, e3_1, e3_2, e3_11, e3_12, e3_88, e3_89, e3_90, markPV] <;> rfl) ?_
        refine pops_mv (.inl rfl) rfl (by simp only [St.eval, upd_at, Nat.reduceEqDiff, if_true, if_false, e3_0, e3_1, e3_2, e3_11, e3_12, e3_88, e3_89, e3_90, markPV] <;> rfl) ?_
        refine pops_to rfl fun M hM => ?_
        simp only [pop, St.eval, constSlot, upd_at, Nat.reduceEqDiff, if_true, if_false, popFieldAddr, fieldOf, List.drop_succ_cons, List.drop_zero, List.getElem?_toArray, List.getElem?_cons_zero, List.getElem?_cons_succ, Tryz.underlying86, sz9, e3_0, e3_1, e3_2, e3_11, e3_12, e3_88, e3_89, e3_90, markPV]
        refine ⟨⟨_, rfl⟩, hM _ _ ?_⟩
        clear hM M
        refine pops_to rfl fun M hM => ?_
        simp only [pop, St.eval, constSlot, upd_at, Nat.reduceEqDiff, if_true, if_false, popLoad, loadK, isAggD, List.drop_zero, List.getElem?_toArray, List.getElem?_cons_zero, List.getElem?_cons_succ, Bool.false_eq_true, Tryz.underlying9, sz9, eq_self, true_and, and_true, e3_0, e3_1, e3_2, e3_11, e3_12, e3_88, e3_89, e3_90, markPV]
        refine hM _ _ ?_
        clear hM M
        refine pops_to rfl fun M hM => ?_
        simp only [pop, St.eval, constSlot, upd_at, Nat.reduceEqDiff, if_true, if_false, popCall, List.toList_toArray, List.map_cons, List.map_nil, svs, List.mapM_cons, List.mapM_nil, Option.bind_eq_bind, Option.bind_some, Option.pure_def, List.append_nil, List.cons_append, List.nil_append, str_size, e3_0, e3_1, e3_2, e3_11, e3_12, e3_88, e3_89, e3_90, markPV]
        refine PFun.use (find_fun W0 false B (by omega) x.path) fun h2 s2 => hM _ _ ?_
        replace s2 := Same.trans sv66 s2
        clear hM M
        refine pops_to rfl fun M hM => ?_
        simp only [pop, St.eval, constSlot, upd_at, Nat.reduceEqDiff, if_true, if_false, popBin, binK, intK, strK, eqK, eq_self, true_and, and_true, e3_0, e3_1, e3_2, e3_11, e3_12, e3_88, e3_89, e3_90, markPV]
        refine hM _ _ ?_
        clear hM M
        refine pops_done (hR68 _ ?_)
        clear hR68 R68
        try simp only [thenK, scopeK]
        refine hN67 _ ?_
        clear hN67 N67
        refine pwp_cond (by simp only [St.eval, upd_at, Nat.reduceEqDiff, if_true, if_false, e3_0, e3_1, e3_2, e3_11, e3_12, e3_88, e3_89, e3_90, markPV] <;> rfl) (fun c99 => ?_) (fun c99 => ?_)
        ·skip
         have hpart := aPart_1 (of_decide_eq_true c99)
         refine pwp_reg fun R69 hR69 => ?_
         refine pops_mv (.inl rfl) rfl (by simp only [St.eval, upd_at, Nat.reduceEqDiff, if_true, if_false, e3_0, e3_1, e3_2, e3_11, e3_12, e3_88, e3_89, e3_90, markPV] <;> rfl) ?_
         refine pops_to rfl fun M hM => ?_
         simp only [pop, St.eval, constSlot, upd_at, Nat.reduceEqDiff, if_true, if_false, popFieldAddr, fieldOf, List.drop_succ_cons, List.drop_zero, List.getElem?_toArray, List.getElem?_cons_zero, List.getElem?_cons_succ, Tryz.underlying86, sz9, e3_0, e3_1, e3_2, e3_11, e3_12, e3_88, e3_89, e3_90, markPV]
         refine ⟨⟨_, rfl⟩, hM _ _ ?_⟩
         clear hM M
         refine pops_to rfl fun M hM => ?_
         simp only [pop, St.eval, constSlot, upd_at, Nat.reduceEqDiff, if_true, if_false, popLoad, loadK, isAggD, List.drop_zero, List.getElem?_toArray, List.getElem?_cons_zero, List.getElem?_cons_succ, Bool.false_eq_true, Tryz.underlying9, sz9, eq_self, true_and, and_true, e3_0, e3_1, e3_2, e3_11, e3_12, e3_88, e3_89, e3_90, markPV]
         refine hM _ _ ?_
         clear hM M
         refine pops_to rfl fun M hM => ?_
         simp only [pop, St.eval, constSlot, upd_at, Nat.reduceEqDiff, if_true, if_false, fillP, slotCells, splice, List.toList_toArray, List.map_cons, List.map_nil, List.length_cons, List.length_nil, Nat.zero_add, Nat.reduceAdd, Nat.reduceLeDiff, List.take_zero, List.take_succ_cons, List.take_nil, List.drop_succ_cons, List.drop_zero, List.drop_nil, List.nil_append, List.cons_append, List.append_nil, and_self, List.getElem?_cons_zero, List.getElem?_cons_succ, List.set_cons_zero, List.set_cons_succ, Option.some.injEq, bd90, eq_self, true_and, and_true, str_list, str_size, str_app, str_cut, str_get, e3_0, e3_1, e3_2, e3_11, e3_12, e3_88, e3_89, e3_90, markPV]
         refine hM _ _ ?_
         clear hM M
         refine pops_to rfl fun M hM => ?_
         simp only [pop, St.eval, constSlot, upd_at, Nat.reduceEqDiff, if_true, if_false, popBuildSlice, slotCells, List.toList_toArray, List.map_cons, List.map_nil, List.mapM_cons, List.mapM_nil, Option.bind_eq_bind, Option.bind_some, Option.pure_def, Tryz.underlying45, sz90, ze90, by90, eq_self, true_and, and_true, str_list, str_size, str_app, str_cut, str_get, e3_0, e3_1, e3_2, e3_11, e3_12, e3_88, e3_89, e3_90, markPV]
         refine ⟨by decide, by decide, rfl, rfl, by simp, by decide, rfl, hM _ _ ?_⟩
         clear hM M
         refine pops_to rfl fun M hM => ?_
         simp only [pop, St.eval, constSlot, upd_at, Nat.reduceEqDiff, if_true, if_false, popCall, List.toList_toArray, List.map_cons, List.map_nil, popBuiltin, eq_self, true_and, and_true, str_list, str_size, str_app, str_cut, str_get, e3_0, e3_1, e3_2, e3_11, e3_12, e3_88, e3_89, e3_90, markPV]
         have hln := foundA_len b A B i
         refine row_app (ys := [chgPV (3, x.path)]) hb Tryz.underlying45 sz90 by90 ze90 rfl (by decide) (ho.same s2) (hK.trans (Same.keeps s2)) rfl (.inr rfl) ⟨by simp only [List.length_map, List.length_cons, List.length_nil]; omega, by simp only [List.length_map, List.length_cons, List.length_nil]; omega⟩ fun sl2 hp2 ho2 hk2 => hM _ _ ?_
         clear hM M
         refine pops_mv (.inr rfl) rfl (by simp only [St.eval, upd_at, Nat.reduceEqDiff, if_true, if_false, e3_0, e3_1, e3_2, e3_11, e3_12, e3_88, e3_89, e3_90, markPV] <;> rfl) ?_
         refine pops_done (hR69 _ ?_)
         clear hR69 R69
         try simp only [blockK, thenK, scopeK]
         try simp only [thenK, scopeK]
         refine hN63 _ ?_
         clear hN63 N63
         refine pwp_reg fun R70 hR70 => ?_
         refine pops_to rfl fun M hM => ?_
         simp only [pop, St.eval, constSlot, upd_at, Nat.reduceEqDiff, if_true, if_false, popBin, binK, intK, strK, eqK, eq_self, true_and, and_true, e3_0, e3_1, e3_2, e3_11, e3_12, e3_88, e3_89, e3_90, markPV]
         refine hM _ _ ?_
         clear hM M
         refine pops_mv (.inl rfl) rfl (by simp only [St.eval, upd_at, Nat.reduceEqDiff, if_true, if_false, e3_0, e3_1, e3_2, e3_11, e3_12, e3_88, e3_89, e3_90, markPV] <;> rfl) ?_
         refine pops_done (hR70 _ ?_)
         clear hR70 R70
         try simp only [thenK, scopeK]
         exact ⟨_, by omega, _, .refl _ _, i + 1, sl2, rfl, by omega, ⟨hk2, by rw [foundA_step hx, hpart, List.map_append]; exact ho2⟩, by simp only [upd_at, Nat.reduceEqDiff, if_true, if_false, e3_0, e3_1, e3_2, e3_11, e3_12, e3_88, e3_89, e3_90, markPV], by simp only [upd_at, Nat.reduceEqDiff, if_true, if_false, e3_0, e3_1, e3_2, e3_11, e3_12, e3_88, e3_89, e3_90, markPV], by simp only [upd_at, Nat.reduceEqDiff, if_true, if_false, e3_0, e3_1, e3_2, e3_11, e3_12, e3_88, e3_89, e3_90, markPV], by simp only [upd_at, Nat.reduceEqDiff, if_true, if_false, e3_0, e3_1, e3_2, e3_11, e3_12, e3_88, e3_89, e3_90, markPV], by simp only [upd_at, Nat.reduceEqDiff, if_true, if_false, e3_0, e3_1, e3_2, e3_11, e3_12, e3_88, e3_89, e3_90, markPV], by simp only [upd_at, Nat.reduceEqDiff, if_true, if_false, e3_0, e3_1, e3_2, e3_11, e3_12, e3_88, e3_89, e3_90, markPV], by simp only [upd_at, Nat.reduceEqDiff, if_true, if_false, e3_0, e3_1, e3_2, e3_11, e3_12, e3_88, e3_89, e3_90, markPV], by simp only [upd_at, Nat.reduceEqDiff, if_true, if_false, e3_90]; rw [wrap_succ (by omega)]⟩
        ·skip
         have hpart := aPart_0 (of_decide_eq_false c99)
         refine pwp_skip ?_
         try simp only [blockK, thenK, scopeK]
         try simp only [thenK, scopeK]
         refine hN63 _ ?_
         clear hN63 N63
         refine pwp_reg fun R71 hR71 => ?_
         refine pops_to rfl fun M hM => ?_
         simp only [pop, St.eval, constSlot, upd_at, Nat.reduceEqDiff, if_true, if_false, popBin, binK, intK, strK, eqK, eq_self, true_and, and_true, e3_0, e3_1, e3_2, e3_11, e3_12, e3_88, e3_89, e3_90, markPV]
         refine hM _ _ ?_
         clear hM M
         refine pops_mv (.inl rfl) rfl (by simp only [St.eval, upd_at, Nat.reduceEqDiff, if_true, if_false, e3_0, e3_1, e3_2, e3_11, e3_12, e3_88, e3_89, e3_90, markPV] <;> rfl) ?_
         refine pops_done (hR71 _ ?_)
         clear hR71 R71
         try simp only [thenK, scopeK]
         exact ⟨_, by omega, _, .refl _ _, i + 1, sl, rfl, by omega, ⟨hK.trans (Same.keeps s2), by rw [foundA_step hx, hpart, List.append_nil]; exact ho.same s2⟩, by simp only [upd_at, Nat.reduceEqDiff, if_true, if_false, e3_0, e3_1, e3_2, e3_11, e3_12, e3_88, e3_89, e3_90, markPV], by simp only [upd_at, Nat.reduceEqDiff, if_true, if_false, e3_0, e3_1, e3_2, e3_11, e3_12, e3_88, e3_89, e3_90, markPV], by simp only [upd_at, Nat.reduceEqDiff, if_true, if_false, e3_0, e3_1, e3_2, e3_11, e3_12, e3_88, e3_89, e3_90, markPV], by simp only [upd_at, Nat.reduceEqDiff, if_true, if_false, e3_0, e3_1, e3_2, e3_11, e3_12, e3_88, e3_89, e3_90, markPV], by simp only [upd_at, Nat.reduceEqDiff, if_true, if_false, e3_0, e3_1, e3_2, e3_11, e3_12, e3_88, e3_89, e3_90, markPV], by simp only [upd_at, Nat.reduceEqDiff, if_true, if_false, e3_0, e3_1, e3_2, e3_11, e3_12, e3_88, e3_89, e3_90, markPV], by simp only [upd_at, Nat.reduceEqDiff, if_true, if_false, e3_0, e3_1, e3_2, e3_11, e3_12, e3_88, e3_89, e3_90, markPV], by simp only [upd_at, Nat.reduceEqDiff, if_true, if_false, e3_90]; rw [wrap_succ (by omega)]⟩
       ·skip
        obtain rfl : i = A.length := by have := of_decide_eq_false c91; omega
        refine pwp_exit ?_
        try simp only [thenK, blockK, scopeK, if_true, Nat.reduceEqDiff, if_false]
        clear hN62 N62
        try simp only [blockK, scopeK, if_true, Nat.reduceEqDiff, if_false, thenK]
        try simp only [thenK, scopeK]
        refine hN57 _ ?_
        clear hN57 N57
        refine pwp_then fun N72 hN72 => ?_
        refine pwp_reg fun R73 hR73 => ?_
        refine pops_mv (.inl rfl) rfl (by simp only [St.eval, upd_at, Nat.reduceEqDiff, if_true, if_false, e3_0, e3_1, e3_2, e3_11, e3_12, e3_88, e3_89, e3_90, markPV] <;> rfl) ?_
        refine pops_to rfl fun M hM => ?_
        simp only [pop, St.eval, constSlot, upd_at, Nat.reduceEqDiff, if_true, if_false, popCall, List.toList_toArray, List.map_cons, List.map_nil, svs, List.mapM_cons, List.mapM_nil, Option.bind_eq_bind, Option.bind_some, Option.pure_def, List.append_nil, List.cons_append, List.nil_append, str_size, e3_0, e3_1, e3_2, e3_11, e3_12, e3_88, e3_89, e3_90, markPV]
        obtain ⟨p9, rfl⟩ := ho.one
        refine (hsort h _ _ p9 hb hK (found_paths hpA hpB A.length) (by have := foundA_len b A B A.length; omega) ho).mono ?_
        rintro _ h9 ⟨rfl, l9, hperm, hsorted, ho9, hk9⟩
        refine hM _ _ ?_
        clear hM M
        refine pops_done (hR73 _ ?_)
        clear hR73 R73
        try simp only [thenK, scopeK]
        refine hN72 _ ?_
        clear hN72 N72
        refine pwp_then fun N74 hN74 => ?_
        refine pwp_reg fun R75 hR75 => ?_
        refine pops_mv (.inl rfl) rfl (by simp only [St.eval, upd_at, Nat.reduceEqDiff, if_true, if_false, e3_0, e3_1, e3_2, e3_11, e3_12, e3_88, e3_89, e3_90, markPV] <;> rfl) ?_
        refine pops_mv (.inr rfl) rfl (by simp only [St.eval, upd_at, Nat.reduceEqDiff, if_true, if_false, e3_0, e3_1, e3_2, e3_11, e3_12, e3_88, e3_89, e3_90, markPV] <;> rfl) ?_
        refine pops_mv (.inr rfl) rfl (by simp only [St.eval, constSlot] <;> rfl) ?_
        refine pops_done (hR75 _ ?_)
        clear hR75 R75
        try simp only [thenK, scopeK]
        refine hN74 _ ?_
        clear hN74 N74
        refine pwp_ret ?_
        simp only [thenK, blockK, scopeK, bodyK]
        obtain ⟨r', h', hw, e, hs9⟩ := endRow2 (W0 := W0) (b := .one (pint 0)) (s := .one p9) rfl rfl (fun w h m h' v x y => SVR.ext y x) ho9 hb hk9
        exact ⟨_, rfl, r', h', hw, _, e.trans (by rw [chgsR, if_neg hr, if_neg hs]), ⟨l9, .inr rfl, fun _ => ⟨hperm, hsorted⟩, by rw [chgsR, if_neg hr, if_neg hs]; exact fun h => absurd rfl h⟩, hs9⟩
end Go.Pw
