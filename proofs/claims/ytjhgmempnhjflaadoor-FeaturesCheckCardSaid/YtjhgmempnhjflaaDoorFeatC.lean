import Derived.Test.YtjhgmempnhjflaaDoorFeatB
import Derived.Test.YtjhgmempnhjflaaDoorClock
namespace Go.Pw
open Go Go.RowKit Go.Proofs
set_option maxRecDepth 100000
set_option linter.unusedSimpArgs false
set_option linter.unusedVariables false
theorem bd88 (parts : List (Nat × Slot)) (N : Slot → Prop) : popBuild Tryd.prog 88 parts N = (match fillP [(0, 1), (1, 1), (2, 1), (3, 1), (4, 1), (5, 1), (6, 1), (7, 1)] [PV.val (.string ⟨#[]⟩), PV.val (.bool false), PV.val (.pointer none), PV.val (.map none), PV.val (.string ⟨#[]⟩), PV.val (.int .i64 0), PV.val (.slice none 0 0), PV.val (.string ⟨#[]⟩)] parts with | some ps => N (.sv (.agg ps)) | none => False) :=
  popBuild_of (z := (.agg #[(.string ⟨#[]⟩), (.bool false), (.pointer none), (.map none), (.string ⟨#[]⟩), (.int .i64 0), (.slice none 0 0), (.string ⟨#[]⟩)])) (by kernel_rfl) (by kernel_rfl) (by kernel_rfl) (by kernel_rfl) parts N
theorem bd93 (parts : List (Nat × Slot)) (N : Slot → Prop) : popBuild Tryd.prog 93 parts N = (match fillP [(0, 9), (9, 1), (10, 1), (11, 1), (12, 1), (13, 1), (14, 1), (15, 1), (16, 1), (17, 1), (18, 1), (19, 1)] [PV.val (.int .i64 0), PV.val (.int .i64 0), PV.val (.int .i64 0), PV.val (.int .i64 0), PV.val (.int .i64 0), PV.val (.int .i64 0), PV.val (.int .i64 0), PV.val (.int .i64 0), PV.val (.string ⟨#[]⟩), PV.val (.pointer none), PV.val (.pointer none), PV.val (.int .i64 0), PV.val (.int .i64 0), PV.val (.slice none 0 0), PV.val (.slice none 0 0), PV.val (.slice none 0 0), PV.val (.int .i64 0), PV.val (.slice none 0 0), PV.val (.map none), PV.val (.map none)] parts with | some ps => N (.sv (.agg ps)) | none => False) :=
  popBuild_of (z := (.agg #[(.int .i64 0), (.int .i64 0), (.int .i64 0), (.int .i64 0), (.int .i64 0), (.int .i64 0), (.int .i64 0), (.int .i64 0), (.string ⟨#[]⟩), (.pointer none), (.pointer none), (.int .i64 0), (.int .i64 0), (.slice none 0 0), (.slice none 0 0), (.slice none 0 0), (.int .i64 0), (.slice none 0 0), (.map none), (.map none)])) (by kernel_rfl) (by kernel_rfl) (by kernel_rfl) (by kernel_rfl) parts N
theorem by81 : bytesOf' Tryd.prog 81 = some 32 := by kernel_rfl
theorem sz22 : szOf Tryd.prog 22 = some 1 := by kernel_rfl
theorem sz39 : szOf Tryd.prog 39 = some 9 := by kernel_rfl
theorem sz40 : szOf Tryd.prog 40 = some 1 := by kernel_rfl
theorem sz93 : szOf Tryd.prog 93 = some 20 := by kernel_rfl
def newP (e : Int) : PV := if e = 0 then .rop [] else .val (.pointer none)
def newE (x : Feat) (l : List Fault) : Int := if featE x ≠ 0 then featE x else faultsE l
def newN (x : Feat) : Int := if featE x ≠ 0 then featE x else 6
theorem newP_neq {P : Program} {t e2 : TypeId} {e : Int} {K : Value → Prop} (hd : P.underlying t = some (.pointer e2)) (H : K (.bool (e == 0))) : popBin P t .neq (.sv (.one (newP e))) (.sv (.one (.val (.pointer none)))) K := by
  unfold newP
  by_cases h : e = 0
  · subst h
    simp only [if_true]
    unfold popBin
    exact ⟨by rw [hd]; trivial, H⟩
  · rw [if_neg h]
    unfold popBin binK
    refine ⟨by rw [hd]; trivial, ?_⟩
    have : (e == 0) = false := by simpa using h
    rw [this] at H
    exact H
theorem faultsE_or (e : Int) : (e == 0) = (e == 0) := rfl
theorem minus_same {h h' : Hp} {id : Nat} (s : Same h h') : Keeps ⟨fun j => if j = id then none else h.blk j, h.lim⟩ h' :=
  ⟨fun j b hj => by
    simp only at hj
    split at hj
    · cases hj
    · rw [s.1]; exact hj, s.2⟩
theorem new_at {h : Hp} {id id2 : Nat} {b c : Blk} (hne : id ≠ id2) (hc : h.blk id = some c) : (h.new id2 b).blk id = some c := by
  simp only [Hp.new]; rw [if_neg hne]; exact hc
theorem minus_plan {h h2 : Hp} {id id2 : Nat} {b b2 c : Blk} (hb : hpOk h) (s : Same h h2) (hid2 : h2.lim ≤ id2) : Keeps ⟨fun j => if j = id then none else h.blk j, h.lim⟩ (((h2.set id b).new id2 b2).set id c) :=
  ⟨fun j bl hj => by
    simp only at hj
    split at hj
    · cases hj
    · rename_i hji
      have := hb j bl hj
      have := s.2
      simp only [Hp.set, Hp.new]
      rw [if_neg hji, if_neg (by omega), if_neg hji, s.1]
      exact hj, by have := s.2; simp only [Hp.set, Hp.new]; omega⟩
theorem nm96 : (Tryd.f96.name == "runtime.NumGoroutine") = false := by kernel_rfl
theorem cloneF_fun (W0 : World) (full : Bool) (l : List Fault) (hl0 : l.length ≤ 1000) :
  PFun Tryd.prog W0 96 [.one (.ro full 4 (l.map faultPV))] (.sv (.one (.ro false 4 (l.map faultPV)))) := by
 intro h
 refine pcalls1 (n := 8) Tryd.func96 rfl nm96 rfl fun hb => ?_
 refine pwp_then fun N1 hN1 => ?_
 refine pwp_reg fun R2 hR2 => ?_
 refine pops_mv (.inr rfl) rfl (by simp only [St.eval, constSlot] <;> rfl) ?_
 refine pops_done (hR2 _ ?_)
 clear hR2 R2
 try simp only [thenK, scopeK]
 refine hN1 _ ?_
 clear hN1 N1
 refine pwp_then fun N3 hN3 => ?_
 refine pwp_then fun N4 hN4 => ?_
 refine pwp_reg fun R5 hR5 => ?_
 refine pops_mv (.inl rfl) rfl (by simp only [St.eval, upd_at, Nat.reduceEqDiff, if_true, if_false] <;> rfl) ?_
 refine pops_to rfl fun M hM => ?_
 simp only [pop, St.eval, constSlot, upd_at, Nat.reduceEqDiff, if_true, if_false, eq_self, true_and, and_true]
 refine ro_nil Tryd.underlying40 fun b9 hb9 => hM _ _ ?_
 clear hM M
 refine pops_done (hR5 _ ?_)
 clear hR5 R5
 try simp only [thenK, scopeK]
 refine hN4 _ ?_
 clear hN4 N4
 refine pwp_cond (by simp only [St.eval, upd_at, Nat.reduceEqDiff, if_true, if_false] <;> rfl) (fun c4 => ?_) (fun c4 => ?_)
 ·skip
  have hnil : l = [] := by simpa using hb9 c4
  refine pwp_then fun N6 hN6 => ?_
  refine pwp_reg fun R7 hR7 => ?_
  refine pops_mv (.inr rfl) rfl (by simp only [St.eval, constSlot] <;> rfl) ?_
  refine pops_done (hR7 _ ?_)
  clear hR7 R7
  try simp only [thenK, scopeK]
  refine hN6 _ ?_
  clear hN6 N6
  refine pwp_ret ?_
  simp only [thenK, blockK, scopeK, bodyK]
  clear hN3 N3
  exact ⟨_, rfl, by rw [hnil]; exact endNil (Same.refl _) (.inl rfl)⟩
 ·skip
  refine pwp_skip ?_
  try simp only [thenK, scopeK]
  refine hN3 _ ?_
  clear hN3 N3
  refine pwp_then fun N8 hN8 => ?_
  refine pwp_reg fun R9 hR9 => ?_
  refine pops_to rfl fun M hM => ?_
  simp only [pop, St.eval, constSlot, upd_at, Nat.reduceEqDiff, if_true, if_false, if_pos, Nat.reduceEqDiff, eq_self, true_and, and_true, str_list, str_size, str_app, str_cut, str_get]
  refine ⟨by rw [Tryd.underlying40]; trivial, 81, 4, Tryd.underlying40, sz81, hM _ _ ?_⟩
  clear hM M
  refine pops_mv (.inl rfl) rfl (by simp only [St.eval, upd_at, Nat.reduceEqDiff, if_true, if_false] <;> rfl) ?_
  refine pops_to rfl fun M hM => ?_
  simp only [pop, St.eval, constSlot, upd_at, Nat.reduceEqDiff, if_true, if_false, popCall, List.toList_toArray, List.map_cons, List.map_nil, popBuiltin, eq_self, true_and, and_true, str_list, str_size, str_app, str_cut, str_get]
  refine app_new (W0 := W0) hb Tryd.underlying40 sz81 by81 ze81 rfl (by decide) (Same.keeps (Same.refl _)) ⟨by simp; omega, by simp; omega⟩ fun sl9 hp9 hk9 => hM _ _ ?_
  clear hM M
  refine pops_mv (.inr rfl) rfl (by simp only [St.eval, upd_at, Nat.reduceEqDiff, if_true, if_false] <;> rfl) ?_
  refine pops_done (hR9 _ ?_)
  clear hR9 R9
  try simp only [thenK, scopeK]
  refine hN8 _ ?_
  clear hN8 N8
  refine pwp_ret ?_
  simp only [thenK, blockK, scopeK, bodyK]
  exact ⟨_, rfl, endRo hk9⟩

theorem nm70 : (Tryd.f70.name == "runtime.NumGoroutine") = false := by kernel_rfl
theorem plan_fun (W0 : World) (full : Bool) (l : List Fault) (hn : l.length ≤ 9223372036854775807) (id : Nat) (cells : List PV) (h : Hp) (hcl : cells.length = 20) (hc : h.blk id = some ⟨93, 20, [cells], 0, true⟩) :
  PCalls Tryd.prog W0 70 [.one (.ptr id 0 0 0), .one (.ro full 4 (l.map faultPV))] h (fun r h' => r = .sv (.one (pint (faultsE l))) ∧ ∃ cells', cells'.length = 20 ∧ h'.blk id = some ⟨93, 20, [cells'], 0, true⟩ ∧ Keeps ⟨fun j => if j = id then none else h.blk j, h.lim⟩ h') := by
 refine pcalls2 (n := 75) Tryd.func70 rfl nm70 rfl fun hb => ?_
 refine pwp_then fun N1 hN1 => ?_
 refine pwp_reg fun R2 hR2 => ?_
 refine pops_mv (.inr rfl) rfl (by simp only [St.eval, constSlot] <;> rfl) ?_
 refine pops_done (hR2 _ ?_)
 clear hR2 R2
 try simp only [thenK, scopeK]
 refine hN1 _ ?_
 clear hN1 N1
 refine pwp_then fun N3 hN3 => ?_
 refine pwp_then fun N4 hN4 => ?_
 refine pwp_reg fun R5 hR5 => ?_
 refine pops_mv (.inl rfl) rfl (by simp only [St.eval, upd_at, Nat.reduceEqDiff, if_true, if_false] <;> rfl) ?_
 refine pops_to rfl fun M hM => ?_
 simp only [pop, St.eval, constSlot, upd_at, Nat.reduceEqDiff, if_true, if_false, popCall, List.toList_toArray, List.map_cons, List.map_nil, popBuiltin, popLen, lenOfSlot, List.length_map, Tryd.underlying40, eq_self, true_and, and_true, str_list, str_size, str_app, str_cut, str_get]
 refine hM _ _ ?_
 clear hM M
 refine pops_to rfl fun M hM => ?_
 simp only [pop, St.eval, constSlot, upd_at, Nat.reduceEqDiff, if_true, if_false, popBin, binK, intK, strK, eqK, eq_self, true_and, and_true]
 refine hM _ _ ?_
 clear hM M
 refine pops_done (hR5 _ ?_)
 clear hR5 R5
 try simp only [thenK, scopeK]
 refine hN4 _ ?_
 clear hN4 N4
 refine pwp_cond (by simp only [St.eval, upd_at, Nat.reduceEqDiff, if_true, if_false] <;> rfl) (fun c9 => ?_) (fun c9 => ?_)
 ·skip
  have he0 : faultsE l = 8 := by rw [faultsE, if_pos (by have := of_decide_eq_true c9; omega)]
  refine pwp_then fun N6 hN6 => ?_
  refine pwp_reg fun R7 hR7 => ?_
  refine pops_mv (.inr rfl) rfl (by simp only [St.eval, constSlot] <;> rfl) ?_
  refine pops_done (hR7 _ ?_)
  clear hR7 R7
  try simp only [thenK, scopeK]
  refine hN6 _ ?_
  clear hN6 N6
  refine pwp_ret ?_
  simp only [thenK, blockK, scopeK, bodyK]
  clear hN3 N3
  refine ⟨_, rfl, ?_⟩
  try simp only [upd_at, Nat.reduceEqDiff, if_true, if_false]
  exact ⟨_, _, .refl _ _ _, by rw [he0], cells, hcl, by rw [(show Same h _ from (Same.refl _)).1]; exact hc, minus_same (Same.refl _)⟩
 ·skip
  have hl0 : l.length ≤ 1000 := by have := of_decide_eq_false c9; omega
  refine pwp_skip ?_
  try simp only [thenK, scopeK]
  refine hN3 _ ?_
  clear hN3 N3
  refine pwp_then fun N8 hN8 => ?_
  refine pwp_then fun N9 hN9 => ?_
  refine pwp_reg fun R10 hR10 => ?_
  refine pops_mv (.inl rfl) rfl (by simp only [St.eval, upd_at, Nat.reduceEqDiff, if_true, if_false] <;> rfl) ?_
  refine pops_to rfl fun M hM => ?_
  simp only [pop, St.eval, constSlot, upd_at, Nat.reduceEqDiff, if_true, if_false, popCall, List.toList_toArray, List.map_cons, List.map_nil, popBuiltin, popLen, lenOfSlot, List.length_map, Tryd.underlying40, eq_self, true_and, and_true, str_list, str_size, str_app, str_cut, str_get]
  refine hM _ _ ?_
  clear hM M
  refine pops_mv (.inl rfl) rfl (by simp only [St.eval, constSlot] <;> rfl) ?_
  refine pops_done (hR10 _ ?_)
  clear hR10 R10
  try simp only [thenK, scopeK]
  refine hN9 _ ?_
  clear hN9 N9
  refine pwp_block ?_
  refine pwp_loop (fun k σ => ∃ (i : Nat), (k = l.length - i) ∧ (i ≤ l.length) ∧ (fsE (l.take i) (l.drop i) = fsE [] l) ∧ (Same h σ.hp) ∧ (σ.env 1 = .sv (.one (.ro full 4 (l.map faultPV)))) ∧ (σ.env 0 = .sv (.one (.ptr id 0 0 0))) ∧ (σ.env 10 = .sv (.one (.ro full 4 (l.map faultPV)))) ∧ (σ.env 11 = .sv (.one (pint (l.length : Nat)))) ∧ (σ.env 12 = .sv (.one (pint (i : Nat))))) _ ⟨_, .refl _ _, 0, rfl, ?_⟩ ?_
  · exact ⟨Nat.zero_le _, rfl, (Same.refl _), by simp only [upd_at, Nat.reduceEqDiff, if_true, if_false], by simp only [upd_at, Nat.reduceEqDiff, if_true, if_false], by simp only [upd_at, Nat.reduceEqDiff, if_true, if_false], by simp only [upd_at, Nat.reduceEqDiff, if_true, if_false], by simp only [upd_at, Nat.reduceEqDiff, if_true, if_false]; rfl⟩
  ·rintro k ⟨e, hp0⟩ ⟨i, hk0, hx0_0, hx0_1, sl0, e0_1, e0_0, e0_10, e0_11, e0_12⟩
   simp only at sl0 e0_1 e0_0 e0_10 e0_11 e0_12
   refine pwp_then fun N11 hN11 => ?_
   refine pwp_reg fun R12 hR12 => ?_
   refine pops_to rfl fun M hM => ?_
   simp only [pop, St.eval, constSlot, upd_at, Nat.reduceEqDiff, if_true, if_false, popBin, binK, intK, strK, eqK, eq_self, true_and, and_true, e0_1, e0_0, e0_10, e0_11, e0_12]
   refine hM _ _ ?_
   clear hM M
   refine pops_done (hR12 _ ?_)
   clear hR12 R12
   try simp only [thenK, scopeK]
   refine hN11 _ ?_
   clear hN11 N11
   refine pwp_then fun N13 hN13 => ?_
   refine pwp_cond (by simp only [St.eval, upd_at, Nat.reduceEqDiff, if_true, if_false, e0_1, e0_0, e0_10, e0_11, e0_12] <;> rfl) (fun c13 => ?_) (fun c13 => ?_)
   ·skip
    have hi : i < l.length := by have := of_decide_eq_true c13; omega
    obtain ⟨f, hx⟩ : ∃ f, l[i]? = some f := ⟨_, List.getElem?_eq_getElem hi⟩
    have hget : (l.map faultPV)[i]? = some (faultPV f) := by simp only [List.getElem?_map, hx, Option.map_some]
    refine pwp_skip ?_
    try simp only [thenK, scopeK]
    refine hN13 _ ?_
    clear hN13 N13
    refine pwp_then fun N14 hN14 => ?_
    refine pwp_block ?_
    refine pwp_then fun N15 hN15 => ?_
    refine pwp_reg fun R16 hR16 => ?_
    refine pops_mv (.inl rfl) rfl (by simp only [St.eval, upd_at, Nat.reduceEqDiff, if_true, if_false, e0_1, e0_0, e0_10, e0_11, e0_12, hget, Int.toNat_natCast, faultPV] <;> rfl) ?_
    refine pops_to rfl fun M hM => ?_
    simp only [pop, St.eval, constSlot, upd_at, Nat.reduceEqDiff, if_true, if_false, popIndexAddr, Tryd.underlying40, sz81, eq_self, true_and, and_true, str_list, str_size, str_app, str_cut, str_get, e0_1, e0_0, e0_10, e0_11, e0_12, hget, Int.toNat_natCast, faultPV]
    refine ⟨Int.natCast_nonneg _, hM _ _ ?_⟩
    clear hM M
    refine pops_to rfl fun M hM => ?_
    simp only [pop, St.eval, constSlot, upd_at, Nat.reduceEqDiff, if_true, if_false, List.length_cons, List.length_nil, Nat.zero_add, Nat.reduceAdd, Nat.reduceLeDiff, List.take_zero, List.take_succ_cons, List.take_nil, List.drop_succ_cons, List.drop_zero, List.drop_nil, List.nil_append, List.cons_append, List.append_nil, and_self, List.getElem?_cons_zero, List.getElem?_cons_succ, List.set_cons_zero, List.set_cons_succ, Option.some.injEq, popLoad, loadK, isAggD, List.drop_zero, List.getElem?_toArray, List.getElem?_cons_zero, List.getElem?_cons_succ, Bool.false_eq_true, Tryd.underlying81, sz81, eq_self, true_and, and_true, e0_1, e0_0, e0_10, e0_11, e0_12, hget, Int.toNat_natCast, faultPV]
    refine hM _ _ ?_
    clear hM M
    refine pops_valloc rfl ze81 (zs := [PV.val (.int .i64 0), PV.val (.int .i64 0), PV.val (.int .i64 0), PV.val (.int .i64 0)]) (by kernel_rfl) (by exact Nat.succ_pos _) (fun id17 hid17 => ?_)
    refine pops_mv (.inr rfl) rfl (by simp only [St.eval, upd_at, Nat.reduceEqDiff, if_true, if_false, e0_1, e0_0, e0_10, e0_11, e0_12, hget, Int.toNat_natCast, faultPV] <;> rfl) ?_
    refine pops_vstore (hpOk.same hb sl0) hid17 (by simp only [upd_at, Nat.reduceEqDiff, if_true, if_false, e0_1, e0_0, e0_10, e0_11, e0_12, hget, Int.toNat_natCast, faultPV]) (by simp only [St.eval, constSlot, slotCells, upd_at, Nat.reduceEqDiff, if_true, if_false, e0_1, e0_0, e0_10, e0_11, e0_12, hget, Int.toNat_natCast, faultPV] <;> rfl) (by rfl) (by rw [sz81]; rfl) (fun hv18 sv18 => ?_)
    replace sv18 := Same.trans sl0 sv18
    refine pops_done (hR16 _ ?_)
    clear hR16 R16
    try simp only [thenK, scopeK]
    refine hN15 _ ?_
    clear hN15 N15
    refine pwp_block ?_
    refine pwp_then fun N19 hN19 => ?_
    refine pwp_reg fun R20 hR20 => ?_
    refine pops_to rfl fun M hM => ?_
    simp only [pop, St.eval, constSlot, upd_at, Nat.reduceEqDiff, if_true, if_false, popFieldAddr, fieldOf, List.drop_succ_cons, List.drop_zero, List.getElem?_toArray, List.getElem?_cons_zero, List.getElem?_cons_succ, Tryd.underlying81, sz3, e0_1, e0_0, e0_10, e0_11, e0_12, hget, Int.toNat_natCast, faultPV]
    refine ⟨⟨_, rfl⟩, hM _ _ ?_⟩
    clear hM M
    refine pops_to rfl fun M hM => ?_
    simp only [pop, St.eval, constSlot, upd_at, Nat.reduceEqDiff, if_true, if_false, popLoad, loadK, isAggD, List.drop_zero, List.getElem?_toArray, List.getElem?_cons_zero, List.getElem?_cons_succ, Bool.false_eq_true, Tryd.underlying3, sz3, eq_self, true_and, and_true, e0_1, e0_0, e0_10, e0_11, e0_12, hget, Int.toNat_natCast, faultPV]
    refine hM _ _ ?_
    clear hM M
    refine pops_to rfl fun M hM => ?_
    simp only [pop, St.eval, constSlot, upd_at, Nat.reduceEqDiff, if_true, if_false, popBin, binK, intK, strK, eqK, eq_self, true_and, and_true, e0_1, e0_0, e0_10, e0_11, e0_12, hget, Int.toNat_natCast, faultPV]
    refine hM _ _ ?_
    clear hM M
    refine pops_mv (.inl rfl) rfl (by simp only [St.eval, upd_at, Nat.reduceEqDiff, if_true, if_false, e0_1, e0_0, e0_10, e0_11, e0_12, hget, Int.toNat_natCast, faultPV] <;> rfl) ?_
    apply pops_or0 4 21 25 [22, 23, 24] (by simp only [upd_at, Nat.reduceEqDiff, if_true, if_false, e0_1, e0_0, e0_10, e0_11, e0_12, hget, Int.toNat_natCast, faultPV] <;> rfl)
    ·skip
     intro g21_0 J21 hJ21
     simp only [List.take_succ_cons, List.take_zero]
     simp only [anyAt_cons, anyAt_nil] at hJ21
     refine pops_do rfl rfl (by simp only [upd_at, Nat.reduceEqDiff, if_true, if_false, e0_1, e0_0, e0_10, e0_11, e0_12, hget, Int.toNat_natCast, faultPV, g21_0]) fun M hM => ?_
     simp only [pop, St.eval, constSlot, upd_at, Nat.reduceEqDiff, if_true, if_false, popFieldAddr, fieldOf, List.drop_succ_cons, List.drop_zero, List.getElem?_toArray, List.getElem?_cons_zero, List.getElem?_cons_succ, Tryd.underlying81, sz3, e0_1, e0_0, e0_10, e0_11, e0_12, hget, Int.toNat_natCast, faultPV, g21_0]
     refine ⟨⟨_, rfl⟩, hM _ _ ?_⟩
     clear hM M
     refine pops_do rfl rfl (by simp only [upd_at, Nat.reduceEqDiff, if_true, if_false, e0_1, e0_0, e0_10, e0_11, e0_12, hget, Int.toNat_natCast, faultPV, g21_0]) fun M hM => ?_
     simp only [pop, St.eval, constSlot, upd_at, Nat.reduceEqDiff, if_true, if_false, popLoad, loadK, isAggD, List.drop_zero, List.getElem?_toArray, List.getElem?_cons_zero, List.getElem?_cons_succ, Bool.false_eq_true, Tryd.underlying3, sz3, eq_self, true_and, and_true, e0_1, e0_0, e0_10, e0_11, e0_12, hget, Int.toNat_natCast, faultPV, g21_0]
     refine hM _ _ ?_
     clear hM M
     refine pops_do rfl rfl (by simp only [upd_at, Nat.reduceEqDiff, if_true, if_false, e0_1, e0_0, e0_10, e0_11, e0_12, hget, Int.toNat_natCast, faultPV, g21_0]) fun M hM => ?_
     simp only [pop, St.eval, constSlot, upd_at, Nat.reduceEqDiff, if_true, if_false, popBin, binK, intK, strK, eqK, eq_self, true_and, and_true, e0_1, e0_0, e0_10, e0_11, e0_12, hget, Int.toNat_natCast, faultPV, g21_0]
     refine hM _ _ ?_
     clear hM M
     refine pops_to rfl fun M hM => ?_
     simp only [pop, St.eval, constSlot, upd_at, Nat.reduceEqDiff, if_true, if_false, popIf, true_implies, false_implies, Bool.true_eq_false, Bool.false_eq_true, reduceCtorEq, true_and, and_true, e0_1, e0_0, e0_10, e0_11, e0_12, hget, Int.toNat_natCast, faultPV, g21_0]
     refine hM _ _ ?_
     clear hM M
     exact pops_done (hJ21 _ (wk_same (wk_any ((wk_any ((wk_any (Wk.refl _ _))))))))
    ·skip
     intro g21_0 J21 hJ21
     simp only [List.take_succ_cons, List.take_zero]
     simp only [anyAt_cons, anyAt_nil] at hJ21
     refine pops_off (b := true) rfl rfl (by simp only [upd_at, Nat.reduceEqDiff, if_true, if_false, e0_1, e0_0, e0_10, e0_11, e0_12, hget, Int.toNat_natCast, faultPV, g21_0]) (by decide) ?_
     refine pops_off (b := true) rfl rfl (by simp only [upd_at, Nat.reduceEqDiff, if_true, if_false, e0_1, e0_0, e0_10, e0_11, e0_12, hget, Int.toNat_natCast, faultPV, g21_0]) (by decide) ?_
     refine pops_off (b := true) rfl rfl (by simp only [upd_at, Nat.reduceEqDiff, if_true, if_false, e0_1, e0_0, e0_10, e0_11, e0_12, hget, Int.toNat_natCast, faultPV, g21_0]) (by decide) ?_
     refine pops_to rfl fun M hM => ?_
     simp only [pop, St.eval, constSlot, upd_at, Nat.reduceEqDiff, if_true, if_false, popIf, true_implies, false_implies, Bool.true_eq_false, Bool.false_eq_true, reduceCtorEq, true_and, and_true, e0_1, e0_0, e0_10, e0_11, e0_12, hget, Int.toNat_natCast, faultPV, g21_0]
     refine hM _ _ ?_
     clear hM M
     exact pops_done (hJ21 _ (wk_same (wk_any ((wk_any ((wk_any (Wk.refl _ _))))))))
    simp only [List.drop_succ_cons, List.drop_zero, anyAt_cons, anyAt_nil]
    refine pops_mv (.inr rfl) rfl (by simp only [St.eval, upd_at, Nat.reduceEqDiff, if_true, if_false, e0_1, e0_0, e0_10, e0_11, e0_12, hget, Int.toNat_natCast, faultPV] <;> rfl) ?_
    refine pops_done (hR20 _ ?_)
    clear hR20 R20
    try simp only [thenK, scopeK]
    refine hN19 _ ?_
    clear hN19 N19
    refine pwp_cond (by simp only [St.eval, upd_at, Nat.reduceEqDiff, if_true, if_false, e0_1, e0_0, e0_10, e0_11, e0_12, hget, Int.toNat_natCast, faultPV] <;> rfl) (fun c17 => ?_) (fun c17 => ?_)
    ·skip
     have hfe : fE (l.take i) f = 5 := by rw [fE, if_pos c17]
     have he0 : faultsE l = 5 := by rw [faultsE, if_neg (by omega)]; exact fsE_hit hx hfe (by decide) hx0_1
     refine pwp_then fun N22 hN22 => ?_
     refine pwp_reg fun R23 hR23 => ?_
     refine pops_mv (.inr rfl) rfl (by simp only [St.eval, constSlot] <;> rfl) ?_
     refine pops_done (hR23 _ ?_)
     clear hR23 R23
     try simp only [thenK, scopeK]
     refine hN22 _ ?_
     clear hN22 N22
     refine pwp_ret ?_
     simp only [thenK, blockK, scopeK, bodyK]
     clear hN14 N14 hN8 N8
     refine ⟨_, rfl, ?_⟩
     try simp only [upd_at, Nat.reduceEqDiff, if_true, if_false, e0_1, e0_0, e0_10, e0_11, e0_12, hget, Int.toNat_natCast, faultPV]
     exact ⟨_, _, .refl _ _ _, by rw [he0], cells, hcl, by rw [(show Same h _ from sv18).1]; exact hc, minus_same sv18⟩
    ·skip
     skip
     refine pwp_then fun N24 hN24 => ?_
     refine pwp_reg fun R25 hR25 => ?_
     refine pops_to rfl fun M hM => ?_
     simp only [pop, St.eval, constSlot, upd_at, Nat.reduceEqDiff, if_true, if_false, popFieldAddr, fieldOf, List.drop_succ_cons, List.drop_zero, List.getElem?_toArray, List.getElem?_cons_zero, List.getElem?_cons_succ, Tryd.underlying81, sz3, e0_1, e0_0, e0_10, e0_11, e0_12, hget, Int.toNat_natCast, faultPV]
     refine ⟨⟨_, rfl⟩, hM _ _ ?_⟩
     clear hM M
     refine pops_to rfl fun M hM => ?_
     simp only [pop, St.eval, constSlot, upd_at, Nat.reduceEqDiff, if_true, if_false, popLoad, loadK, isAggD, List.drop_zero, List.getElem?_toArray, List.getElem?_cons_zero, List.getElem?_cons_succ, Bool.false_eq_true, Tryd.underlying3, sz3, eq_self, true_and, and_true, e0_1, e0_0, e0_10, e0_11, e0_12, hget, Int.toNat_natCast, faultPV]
     refine hM _ _ ?_
     clear hM M
     refine pops_to rfl fun M hM => ?_
     simp only [pop, St.eval, constSlot, upd_at, Nat.reduceEqDiff, if_true, if_false, popBin, binK, intK, strK, eqK, eq_self, true_and, and_true, e0_1, e0_0, e0_10, e0_11, e0_12, hget, Int.toNat_natCast, faultPV]
     refine hM _ _ ?_
     clear hM M
     refine pops_mv (.inl rfl) rfl (by simp only [St.eval, upd_at, Nat.reduceEqDiff, if_true, if_false, e0_1, e0_0, e0_10, e0_11, e0_12, hget, Int.toNat_natCast, faultPV] <;> rfl) ?_
     apply pops_or0 4 30 34 [31, 32, 33] (by simp only [upd_at, Nat.reduceEqDiff, if_true, if_false, e0_1, e0_0, e0_10, e0_11, e0_12, hget, Int.toNat_natCast, faultPV] <;> rfl)
     ·skip
      intro g30_0 J26 hJ26
      simp only [List.take_succ_cons, List.take_zero]
      simp only [anyAt_cons, anyAt_nil] at hJ26
      refine pops_do rfl rfl (by simp only [upd_at, Nat.reduceEqDiff, if_true, if_false, e0_1, e0_0, e0_10, e0_11, e0_12, hget, Int.toNat_natCast, faultPV, g30_0]) fun M hM => ?_
      simp only [pop, St.eval, constSlot, upd_at, Nat.reduceEqDiff, if_true, if_false, popFieldAddr, fieldOf, List.drop_succ_cons, List.drop_zero, List.getElem?_toArray, List.getElem?_cons_zero, List.getElem?_cons_succ, Tryd.underlying81, sz3, e0_1, e0_0, e0_10, e0_11, e0_12, hget, Int.toNat_natCast, faultPV, g30_0]
      refine ⟨⟨_, rfl⟩, hM _ _ ?_⟩
      clear hM M
      refine pops_do rfl rfl (by simp only [upd_at, Nat.reduceEqDiff, if_true, if_false, e0_1, e0_0, e0_10, e0_11, e0_12, hget, Int.toNat_natCast, faultPV, g30_0]) fun M hM => ?_
      simp only [pop, St.eval, constSlot, upd_at, Nat.reduceEqDiff, if_true, if_false, popLoad, loadK, isAggD, List.drop_zero, List.getElem?_toArray, List.getElem?_cons_zero, List.getElem?_cons_succ, Bool.false_eq_true, Tryd.underlying3, sz3, eq_self, true_and, and_true, e0_1, e0_0, e0_10, e0_11, e0_12, hget, Int.toNat_natCast, faultPV, g30_0]
      refine hM _ _ ?_
      clear hM M
      refine pops_do rfl rfl (by simp only [upd_at, Nat.reduceEqDiff, if_true, if_false, e0_1, e0_0, e0_10, e0_11, e0_12, hget, Int.toNat_natCast, faultPV, g30_0]) fun M hM => ?_
      simp only [pop, St.eval, constSlot, upd_at, Nat.reduceEqDiff, if_true, if_false, popBin, binK, intK, strK, eqK, eq_self, true_and, and_true, e0_1, e0_0, e0_10, e0_11, e0_12, hget, Int.toNat_natCast, faultPV, g30_0]
      refine hM _ _ ?_
      clear hM M
      refine pops_to rfl fun M hM => ?_
      simp only [pop, St.eval, constSlot, upd_at, Nat.reduceEqDiff, if_true, if_false, popIf, true_implies, false_implies, Bool.true_eq_false, Bool.false_eq_true, reduceCtorEq, true_and, and_true, e0_1, e0_0, e0_10, e0_11, e0_12, hget, Int.toNat_natCast, faultPV, g30_0]
      refine hM _ _ ?_
      clear hM M
      exact pops_done (hJ26 _ (wk_same (wk_any ((wk_any ((wk_any (Wk.refl _ _))))))))
     ·skip
      intro g30_0 J26 hJ26
      simp only [List.take_succ_cons, List.take_zero]
      simp only [anyAt_cons, anyAt_nil] at hJ26
      refine pops_off (b := true) rfl rfl (by simp only [upd_at, Nat.reduceEqDiff, if_true, if_false, e0_1, e0_0, e0_10, e0_11, e0_12, hget, Int.toNat_natCast, faultPV, g30_0]) (by decide) ?_
      refine pops_off (b := true) rfl rfl (by simp only [upd_at, Nat.reduceEqDiff, if_true, if_false, e0_1, e0_0, e0_10, e0_11, e0_12, hget, Int.toNat_natCast, faultPV, g30_0]) (by decide) ?_
      refine pops_off (b := true) rfl rfl (by simp only [upd_at, Nat.reduceEqDiff, if_true, if_false, e0_1, e0_0, e0_10, e0_11, e0_12, hget, Int.toNat_natCast, faultPV, g30_0]) (by decide) ?_
      refine pops_to rfl fun M hM => ?_
      simp only [pop, St.eval, constSlot, upd_at, Nat.reduceEqDiff, if_true, if_false, popIf, true_implies, false_implies, Bool.true_eq_false, Bool.false_eq_true, reduceCtorEq, true_and, and_true, e0_1, e0_0, e0_10, e0_11, e0_12, hget, Int.toNat_natCast, faultPV, g30_0]
      refine hM _ _ ?_
      clear hM M
      exact pops_done (hJ26 _ (wk_same (wk_any ((wk_any ((wk_any (Wk.refl _ _))))))))
     simp only [List.drop_succ_cons, List.drop_zero, anyAt_cons, anyAt_nil]
     refine pops_mv (.inl rfl) rfl (by simp only [St.eval, upd_at, Nat.reduceEqDiff, if_true, if_false, e0_1, e0_0, e0_10, e0_11, e0_12, hget, Int.toNat_natCast, faultPV] <;> rfl) ?_
     apply pops_or0 4 35 39 [36, 37, 38] (by simp only [upd_at, Nat.reduceEqDiff, if_true, if_false, e0_1, e0_0, e0_10, e0_11, e0_12, hget, Int.toNat_natCast, faultPV] <;> rfl)
     ·skip
      intro g35_0 J27 hJ27
      simp only [List.take_succ_cons, List.take_zero]
      simp only [anyAt_cons, anyAt_nil] at hJ27
      refine pops_do rfl rfl (by simp only [upd_at, Nat.reduceEqDiff, if_true, if_false, e0_1, e0_0, e0_10, e0_11, e0_12, hget, Int.toNat_natCast, faultPV, g35_0]) fun M hM => ?_
      simp only [pop, St.eval, constSlot, upd_at, Nat.reduceEqDiff, if_true, if_false, popFieldAddr, fieldOf, List.drop_succ_cons, List.drop_zero, List.getElem?_toArray, List.getElem?_cons_zero, List.getElem?_cons_succ, Tryd.underlying81, sz3, e0_1, e0_0, e0_10, e0_11, e0_12, hget, Int.toNat_natCast, faultPV, g35_0]
      refine ⟨⟨_, rfl⟩, hM _ _ ?_⟩
      clear hM M
      refine pops_do rfl rfl (by simp only [upd_at, Nat.reduceEqDiff, if_true, if_false, e0_1, e0_0, e0_10, e0_11, e0_12, hget, Int.toNat_natCast, faultPV, g35_0]) fun M hM => ?_
      simp only [pop, St.eval, constSlot, upd_at, Nat.reduceEqDiff, if_true, if_false, popLoad, loadK, isAggD, List.drop_zero, List.getElem?_toArray, List.getElem?_cons_zero, List.getElem?_cons_succ, Bool.false_eq_true, Tryd.underlying3, sz3, eq_self, true_and, and_true, e0_1, e0_0, e0_10, e0_11, e0_12, hget, Int.toNat_natCast, faultPV, g35_0]
      refine hM _ _ ?_
      clear hM M
      refine pops_do rfl rfl (by simp only [upd_at, Nat.reduceEqDiff, if_true, if_false, e0_1, e0_0, e0_10, e0_11, e0_12, hget, Int.toNat_natCast, faultPV, g35_0]) fun M hM => ?_
      simp only [pop, St.eval, constSlot, upd_at, Nat.reduceEqDiff, if_true, if_false, popBin, binK, intK, strK, eqK, eq_self, true_and, and_true, e0_1, e0_0, e0_10, e0_11, e0_12, hget, Int.toNat_natCast, faultPV, g35_0]
      refine hM _ _ ?_
      clear hM M
      refine pops_to rfl fun M hM => ?_
      simp only [pop, St.eval, constSlot, upd_at, Nat.reduceEqDiff, if_true, if_false, popIf, true_implies, false_implies, Bool.true_eq_false, Bool.false_eq_true, reduceCtorEq, true_and, and_true, e0_1, e0_0, e0_10, e0_11, e0_12, hget, Int.toNat_natCast, faultPV, g35_0]
      refine hM _ _ ?_
      clear hM M
      exact pops_done (hJ27 _ (wk_same (wk_any ((wk_any ((wk_any (Wk.refl _ _))))))))
     ·skip
      intro g35_0 J27 hJ27
      simp only [List.take_succ_cons, List.take_zero]
      simp only [anyAt_cons, anyAt_nil] at hJ27
      refine pops_off (b := true) rfl rfl (by simp only [upd_at, Nat.reduceEqDiff, if_true, if_false, e0_1, e0_0, e0_10, e0_11, e0_12, hget, Int.toNat_natCast, faultPV, g35_0]) (by decide) ?_
      refine pops_off (b := true) rfl rfl (by simp only [upd_at, Nat.reduceEqDiff, if_true, if_false, e0_1, e0_0, e0_10, e0_11, e0_12, hget, Int.toNat_natCast, faultPV, g35_0]) (by decide) ?_
      refine pops_off (b := true) rfl rfl (by simp only [upd_at, Nat.reduceEqDiff, if_true, if_false, e0_1, e0_0, e0_10, e0_11, e0_12, hget, Int.toNat_natCast, faultPV, g35_0]) (by decide) ?_
      refine pops_to rfl fun M hM => ?_
      simp only [pop, St.eval, constSlot, upd_at, Nat.reduceEqDiff, if_true, if_false, popIf, true_implies, false_implies, Bool.true_eq_false, Bool.false_eq_true, reduceCtorEq, true_and, and_true, e0_1, e0_0, e0_10, e0_11, e0_12, hget, Int.toNat_natCast, faultPV, g35_0]
      refine hM _ _ ?_
      clear hM M
      exact pops_done (hJ27 _ (wk_same (wk_any ((wk_any ((wk_any (Wk.refl _ _))))))))
     simp only [List.drop_succ_cons, List.drop_zero, anyAt_cons, anyAt_nil]
     refine pops_mv (.inr rfl) rfl (by simp only [St.eval, upd_at, Nat.reduceEqDiff, if_true, if_false, e0_1, e0_0, e0_10, e0_11, e0_12, hget, Int.toNat_natCast, faultPV] <;> rfl) ?_
     refine pops_done (hR25 _ ?_)
     clear hR25 R25
     try simp only [thenK, scopeK]
     refine hN24 _ ?_
     clear hN24 N24
     refine pwp_cond (by simp only [St.eval, upd_at, Nat.reduceEqDiff, if_true, if_false, e0_1, e0_0, e0_10, e0_11, e0_12, hget, Int.toNat_natCast, faultPV] <;> rfl) (fun c26 => ?_) (fun c26 => ?_)
     ·skip
      have hfe : fE (l.take i) f = 7 := by rw [fE, if_neg (by rw [c17]; simp), if_pos c26]
      have he0 : faultsE l = 7 := by rw [faultsE, if_neg (by omega)]; exact fsE_hit hx hfe (by decide) hx0_1
      refine pwp_then fun N28 hN28 => ?_
      refine pwp_reg fun R29 hR29 => ?_
      refine pops_mv (.inr rfl) rfl (by simp only [St.eval, constSlot] <;> rfl) ?_
      refine pops_done (hR29 _ ?_)
      clear hR29 R29
      try simp only [thenK, scopeK]
      refine hN28 _ ?_
      clear hN28 N28
      refine pwp_ret ?_
      simp only [thenK, blockK, scopeK, bodyK]
      clear hN14 N14 hN8 N8
      refine ⟨_, rfl, ?_⟩
      try simp only [upd_at, Nat.reduceEqDiff, if_true, if_false, e0_1, e0_0, e0_10, e0_11, e0_12, hget, Int.toNat_natCast, faultPV]
      exact ⟨_, _, .refl _ _ _, by rw [he0], cells, hcl, by rw [(show Same h _ from sv18).1]; exact hc, minus_same sv18⟩
     ·skip
      skip
      refine pwp_then fun N30 hN30 => ?_
      refine pwp_reg fun R31 hR31 => ?_
      refine pops_to rfl fun M hM => ?_
      simp only [pop, St.eval, constSlot, upd_at, Nat.reduceEqDiff, if_true, if_false, popFieldAddr, fieldOf, List.drop_succ_cons, List.drop_zero, List.getElem?_toArray, List.getElem?_cons_zero, List.getElem?_cons_succ, Tryd.underlying81, sz31, e0_1, e0_0, e0_10, e0_11, e0_12, hget, Int.toNat_natCast, faultPV]
      refine ⟨⟨_, rfl⟩, hM _ _ ?_⟩
      clear hM M
      refine pops_to rfl fun M hM => ?_
      simp only [pop, St.eval, constSlot, upd_at, Nat.reduceEqDiff, if_true, if_false, popLoad, loadK, isAggD, List.drop_zero, List.getElem?_toArray, List.getElem?_cons_zero, List.getElem?_cons_succ, Bool.false_eq_true, Tryd.underlying31, sz31, eq_self, true_and, and_true, e0_1, e0_0, e0_10, e0_11, e0_12, hget, Int.toNat_natCast, faultPV]
      refine hM _ _ ?_
      clear hM M
      refine pops_to rfl fun M hM => ?_
      simp only [pop, St.eval, constSlot, upd_at, Nat.reduceEqDiff, if_true, if_false, popBin, binK, intK, strK, eqK, Tryd.underlying31, isPtr, eq_self, true_and, and_true, e0_1, e0_0, e0_10, e0_11, e0_12, hget, Int.toNat_natCast, faultPV]
      refine hM _ _ ?_
      clear hM M
      refine pops_mv (.inl rfl) rfl (by simp only [St.eval, upd_at, Nat.reduceEqDiff, if_true, if_false, e0_1, e0_0, e0_10, e0_11, e0_12, hget, Int.toNat_natCast, faultPV] <;> rfl) ?_
      apply pops_and0 4 44 48 [45, 46, 47] (by simp only [upd_at, Nat.reduceEqDiff, if_true, if_false, e0_1, e0_0, e0_10, e0_11, e0_12, hget, Int.toNat_natCast, faultPV] <;> rfl)
      ·skip
       intro g44_0 J32 hJ32
       simp only [List.take_succ_cons, List.take_zero]
       simp only [anyAt_cons, anyAt_nil] at hJ32
       refine pops_do rfl rfl (by simp only [upd_at, Nat.reduceEqDiff, if_true, if_false, e0_1, e0_0, e0_10, e0_11, e0_12, hget, Int.toNat_natCast, faultPV, g44_0]) fun M hM => ?_
       simp only [pop, St.eval, constSlot, upd_at, Nat.reduceEqDiff, if_true, if_false, popFieldAddr, fieldOf, List.drop_succ_cons, List.drop_zero, List.getElem?_toArray, List.getElem?_cons_zero, List.getElem?_cons_succ, Tryd.underlying81, sz31, e0_1, e0_0, e0_10, e0_11, e0_12, hget, Int.toNat_natCast, faultPV, g44_0]
       refine ⟨⟨_, rfl⟩, hM _ _ ?_⟩
       clear hM M
       refine pops_do rfl rfl (by simp only [upd_at, Nat.reduceEqDiff, if_true, if_false, e0_1, e0_0, e0_10, e0_11, e0_12, hget, Int.toNat_natCast, faultPV, g44_0]) fun M hM => ?_
       simp only [pop, St.eval, constSlot, upd_at, Nat.reduceEqDiff, if_true, if_false, popLoad, loadK, isAggD, List.drop_zero, List.getElem?_toArray, List.getElem?_cons_zero, List.getElem?_cons_succ, Bool.false_eq_true, Tryd.underlying31, sz31, eq_self, true_and, and_true, e0_1, e0_0, e0_10, e0_11, e0_12, hget, Int.toNat_natCast, faultPV, g44_0]
       refine hM _ _ ?_
       clear hM M
       refine pops_do rfl rfl (by simp only [upd_at, Nat.reduceEqDiff, if_true, if_false, e0_1, e0_0, e0_10, e0_11, e0_12, hget, Int.toNat_natCast, faultPV, g44_0]) fun M hM => ?_
       simp only [pop, St.eval, constSlot, upd_at, Nat.reduceEqDiff, if_true, if_false, popBin, binK, intK, strK, eqK, Tryd.underlying31, isPtr, eq_self, true_and, and_true, e0_1, e0_0, e0_10, e0_11, e0_12, hget, Int.toNat_natCast, faultPV, g44_0]
       refine hM _ _ ?_
       clear hM M
       refine pops_to rfl fun M hM => ?_
       simp only [pop, St.eval, constSlot, upd_at, Nat.reduceEqDiff, if_true, if_false, popIf, true_implies, false_implies, Bool.true_eq_false, Bool.false_eq_true, reduceCtorEq, true_and, and_true, e0_1, e0_0, e0_10, e0_11, e0_12, hget, Int.toNat_natCast, faultPV, g44_0]
       refine hM _ _ ?_
       clear hM M
       exact pops_done (hJ32 _ (wk_same (wk_any ((wk_any ((wk_any (Wk.refl _ _))))))))
      ·skip
       intro g44_0 J32 hJ32
       simp only [List.take_succ_cons, List.take_zero]
       simp only [anyAt_cons, anyAt_nil] at hJ32
       refine pops_off (b := false) rfl rfl (by simp only [upd_at, Nat.reduceEqDiff, if_true, if_false, e0_1, e0_0, e0_10, e0_11, e0_12, hget, Int.toNat_natCast, faultPV, g44_0]) (by decide) ?_
       refine pops_off (b := false) rfl rfl (by simp only [upd_at, Nat.reduceEqDiff, if_true, if_false, e0_1, e0_0, e0_10, e0_11, e0_12, hget, Int.toNat_natCast, faultPV, g44_0]) (by decide) ?_
       refine pops_off (b := false) rfl rfl (by simp only [upd_at, Nat.reduceEqDiff, if_true, if_false, e0_1, e0_0, e0_10, e0_11, e0_12, hget, Int.toNat_natCast, faultPV, g44_0]) (by decide) ?_
       refine pops_to rfl fun M hM => ?_
       simp only [pop, St.eval, constSlot, upd_at, Nat.reduceEqDiff, if_true, if_false, popIf, true_implies, false_implies, Bool.true_eq_false, Bool.false_eq_true, reduceCtorEq, true_and, and_true, e0_1, e0_0, e0_10, e0_11, e0_12, hget, Int.toNat_natCast, faultPV, g44_0]
       refine hM _ _ ?_
       clear hM M
       exact pops_done (hJ32 _ (wk_same (wk_any ((wk_any ((wk_any (Wk.refl _ _))))))))
      simp only [List.drop_succ_cons, List.drop_zero, anyAt_cons, anyAt_nil]
      refine pops_mv (.inl rfl) rfl (by simp only [St.eval, upd_at, Nat.reduceEqDiff, if_true, if_false, e0_1, e0_0, e0_10, e0_11, e0_12, hget, Int.toNat_natCast, faultPV] <;> rfl) ?_
      apply pops_and0 4 49 53 [50, 51, 52] (by simp only [upd_at, Nat.reduceEqDiff, if_true, if_false, e0_1, e0_0, e0_10, e0_11, e0_12, hget, Int.toNat_natCast, faultPV] <;> rfl)
      ·skip
       intro g49_0 J33 hJ33
       simp only [List.take_succ_cons, List.take_zero]
       simp only [anyAt_cons, anyAt_nil] at hJ33
       refine pops_do rfl rfl (by simp only [upd_at, Nat.reduceEqDiff, if_true, if_false, e0_1, e0_0, e0_10, e0_11, e0_12, hget, Int.toNat_natCast, faultPV, g49_0]) fun M hM => ?_
       simp only [pop, St.eval, constSlot, upd_at, Nat.reduceEqDiff, if_true, if_false, popFieldAddr, fieldOf, List.drop_succ_cons, List.drop_zero, List.getElem?_toArray, List.getElem?_cons_zero, List.getElem?_cons_succ, Tryd.underlying81, sz31, e0_1, e0_0, e0_10, e0_11, e0_12, hget, Int.toNat_natCast, faultPV, g49_0]
       refine ⟨⟨_, rfl⟩, hM _ _ ?_⟩
       clear hM M
       refine pops_do rfl rfl (by simp only [upd_at, Nat.reduceEqDiff, if_true, if_false, e0_1, e0_0, e0_10, e0_11, e0_12, hget, Int.toNat_natCast, faultPV, g49_0]) fun M hM => ?_
       simp only [pop, St.eval, constSlot, upd_at, Nat.reduceEqDiff, if_true, if_false, popLoad, loadK, isAggD, List.drop_zero, List.getElem?_toArray, List.getElem?_cons_zero, List.getElem?_cons_succ, Bool.false_eq_true, Tryd.underlying31, sz31, eq_self, true_and, and_true, e0_1, e0_0, e0_10, e0_11, e0_12, hget, Int.toNat_natCast, faultPV, g49_0]
       refine hM _ _ ?_
       clear hM M
       refine pops_do rfl rfl (by simp only [upd_at, Nat.reduceEqDiff, if_true, if_false, e0_1, e0_0, e0_10, e0_11, e0_12, hget, Int.toNat_natCast, faultPV, g49_0]) fun M hM => ?_
       simp only [pop, St.eval, constSlot, upd_at, Nat.reduceEqDiff, if_true, if_false, popBin, binK, intK, strK, eqK, Tryd.underlying31, isPtr, eq_self, true_and, and_true, e0_1, e0_0, e0_10, e0_11, e0_12, hget, Int.toNat_natCast, faultPV, g49_0]
       refine hM _ _ ?_
       clear hM M
       refine pops_to rfl fun M hM => ?_
       simp only [pop, St.eval, constSlot, upd_at, Nat.reduceEqDiff, if_true, if_false, popIf, true_implies, false_implies, Bool.true_eq_false, Bool.false_eq_true, reduceCtorEq, true_and, and_true, e0_1, e0_0, e0_10, e0_11, e0_12, hget, Int.toNat_natCast, faultPV, g49_0]
       refine hM _ _ ?_
       clear hM M
       exact pops_done (hJ33 _ (wk_same (wk_any ((wk_any ((wk_any (Wk.refl _ _))))))))
      ·skip
       intro g49_0 J33 hJ33
       simp only [List.take_succ_cons, List.take_zero]
       simp only [anyAt_cons, anyAt_nil] at hJ33
       refine pops_off (b := false) rfl rfl (by simp only [upd_at, Nat.reduceEqDiff, if_true, if_false, e0_1, e0_0, e0_10, e0_11, e0_12, hget, Int.toNat_natCast, faultPV, g49_0]) (by decide) ?_
       refine pops_off (b := false) rfl rfl (by simp only [upd_at, Nat.reduceEqDiff, if_true, if_false, e0_1, e0_0, e0_10, e0_11, e0_12, hget, Int.toNat_natCast, faultPV, g49_0]) (by decide) ?_
       refine pops_off (b := false) rfl rfl (by simp only [upd_at, Nat.reduceEqDiff, if_true, if_false, e0_1, e0_0, e0_10, e0_11, e0_12, hget, Int.toNat_natCast, faultPV, g49_0]) (by decide) ?_
       refine pops_to rfl fun M hM => ?_
       simp only [pop, St.eval, constSlot, upd_at, Nat.reduceEqDiff, if_true, if_false, popIf, true_implies, false_implies, Bool.true_eq_false, Bool.false_eq_true, reduceCtorEq, true_and, and_true, e0_1, e0_0, e0_10, e0_11, e0_12, hget, Int.toNat_natCast, faultPV, g49_0]
       refine hM _ _ ?_
       clear hM M
       exact pops_done (hJ33 _ (wk_same (wk_any ((wk_any ((wk_any (Wk.refl _ _))))))))
      simp only [List.drop_succ_cons, List.drop_zero, anyAt_cons, anyAt_nil]
      refine pops_mv (.inl rfl) rfl (by simp only [St.eval, upd_at, Nat.reduceEqDiff, if_true, if_false, e0_1, e0_0, e0_10, e0_11, e0_12, hget, Int.toNat_natCast, faultPV] <;> rfl) ?_
      apply pops_and0 4 54 58 [55, 56, 57] (by simp only [upd_at, Nat.reduceEqDiff, if_true, if_false, e0_1, e0_0, e0_10, e0_11, e0_12, hget, Int.toNat_natCast, faultPV] <;> rfl)
      ·skip
       intro g54_0 J34 hJ34
       simp only [List.take_succ_cons, List.take_zero]
       simp only [anyAt_cons, anyAt_nil] at hJ34
       refine pops_do rfl rfl (by simp only [upd_at, Nat.reduceEqDiff, if_true, if_false, e0_1, e0_0, e0_10, e0_11, e0_12, hget, Int.toNat_natCast, faultPV, g54_0]) fun M hM => ?_
       simp only [pop, St.eval, constSlot, upd_at, Nat.reduceEqDiff, if_true, if_false, popFieldAddr, fieldOf, List.drop_succ_cons, List.drop_zero, List.getElem?_toArray, List.getElem?_cons_zero, List.getElem?_cons_succ, Tryd.underlying81, sz31, e0_1, e0_0, e0_10, e0_11, e0_12, hget, Int.toNat_natCast, faultPV, g54_0]
       refine ⟨⟨_, rfl⟩, hM _ _ ?_⟩
       clear hM M
       refine pops_do rfl rfl (by simp only [upd_at, Nat.reduceEqDiff, if_true, if_false, e0_1, e0_0, e0_10, e0_11, e0_12, hget, Int.toNat_natCast, faultPV, g54_0]) fun M hM => ?_
       simp only [pop, St.eval, constSlot, upd_at, Nat.reduceEqDiff, if_true, if_false, popLoad, loadK, isAggD, List.drop_zero, List.getElem?_toArray, List.getElem?_cons_zero, List.getElem?_cons_succ, Bool.false_eq_true, Tryd.underlying31, sz31, eq_self, true_and, and_true, e0_1, e0_0, e0_10, e0_11, e0_12, hget, Int.toNat_natCast, faultPV, g54_0]
       refine hM _ _ ?_
       clear hM M
       refine pops_do rfl rfl (by simp only [upd_at, Nat.reduceEqDiff, if_true, if_false, e0_1, e0_0, e0_10, e0_11, e0_12, hget, Int.toNat_natCast, faultPV, g54_0]) fun M hM => ?_
       simp only [pop, St.eval, constSlot, upd_at, Nat.reduceEqDiff, if_true, if_false, popBin, binK, intK, strK, eqK, Tryd.underlying31, isPtr, eq_self, true_and, and_true, e0_1, e0_0, e0_10, e0_11, e0_12, hget, Int.toNat_natCast, faultPV, g54_0]
       refine hM _ _ ?_
       clear hM M
       refine pops_to rfl fun M hM => ?_
       simp only [pop, St.eval, constSlot, upd_at, Nat.reduceEqDiff, if_true, if_false, popIf, true_implies, false_implies, Bool.true_eq_false, Bool.false_eq_true, reduceCtorEq, true_and, and_true, e0_1, e0_0, e0_10, e0_11, e0_12, hget, Int.toNat_natCast, faultPV, g54_0]
       refine hM _ _ ?_
       clear hM M
       exact pops_done (hJ34 _ (wk_same (wk_any ((wk_any ((wk_any (Wk.refl _ _))))))))
      ·skip
       intro g54_0 J34 hJ34
       simp only [List.take_succ_cons, List.take_zero]
       simp only [anyAt_cons, anyAt_nil] at hJ34
       refine pops_off (b := false) rfl rfl (by simp only [upd_at, Nat.reduceEqDiff, if_true, if_false, e0_1, e0_0, e0_10, e0_11, e0_12, hget, Int.toNat_natCast, faultPV, g54_0]) (by decide) ?_
       refine pops_off (b := false) rfl rfl (by simp only [upd_at, Nat.reduceEqDiff, if_true, if_false, e0_1, e0_0, e0_10, e0_11, e0_12, hget, Int.toNat_natCast, faultPV, g54_0]) (by decide) ?_
       refine pops_off (b := false) rfl rfl (by simp only [upd_at, Nat.reduceEqDiff, if_true, if_false, e0_1, e0_0, e0_10, e0_11, e0_12, hget, Int.toNat_natCast, faultPV, g54_0]) (by decide) ?_
       refine pops_to rfl fun M hM => ?_
       simp only [pop, St.eval, constSlot, upd_at, Nat.reduceEqDiff, if_true, if_false, popIf, true_implies, false_implies, Bool.true_eq_false, Bool.false_eq_true, reduceCtorEq, true_and, and_true, e0_1, e0_0, e0_10, e0_11, e0_12, hget, Int.toNat_natCast, faultPV, g54_0]
       refine hM _ _ ?_
       clear hM M
       exact pops_done (hJ34 _ (wk_same (wk_any ((wk_any ((wk_any (Wk.refl _ _))))))))
      simp only [List.drop_succ_cons, List.drop_zero, anyAt_cons, anyAt_nil]
      refine pops_mv (.inr rfl) rfl (by simp only [St.eval, upd_at, Nat.reduceEqDiff, if_true, if_false, e0_1, e0_0, e0_10, e0_11, e0_12, hget, Int.toNat_natCast, faultPV] <;> rfl) ?_
      refine pops_done (hR31 _ ?_)
      clear hR31 R31
      try simp only [thenK, scopeK]
      refine hN30 _ ?_
      clear hN30 N30
      refine pwp_cond (by simp only [St.eval, upd_at, Nat.reduceEqDiff, if_true, if_false, e0_1, e0_0, e0_10, e0_11, e0_12, hget, Int.toNat_natCast, faultPV] <;> rfl) (fun c40 => ?_) (fun c40 => ?_)
      ·skip
       have hfe : fE (l.take i) f = 6 := by rw [fE, if_neg (by rw [c17]; simp), if_neg (by rw [c26]; simp), if_pos (show errB f = true from c40)]
       have he0 : faultsE l = 6 := by rw [faultsE, if_neg (by omega)]; exact fsE_hit hx hfe (by decide) hx0_1
       refine pwp_then fun N35 hN35 => ?_
       refine pwp_reg fun R36 hR36 => ?_
       refine pops_mv (.inr rfl) rfl (by simp only [St.eval, constSlot] <;> rfl) ?_
       refine pops_done (hR36 _ ?_)
       clear hR36 R36
       try simp only [thenK, scopeK]
       refine hN35 _ ?_
       clear hN35 N35
       refine pwp_ret ?_
       simp only [thenK, blockK, scopeK, bodyK]
       clear hN14 N14 hN8 N8
       refine ⟨_, rfl, ?_⟩
       try simp only [upd_at, Nat.reduceEqDiff, if_true, if_false, e0_1, e0_0, e0_10, e0_11, e0_12, hget, Int.toNat_natCast, faultPV]
       exact ⟨_, _, .refl _ _ _, by rw [he0], cells, hcl, by rw [(show Same h _ from sv18).1]; exact hc, minus_same sv18⟩
      ·skip
       skip
       refine pwp_then fun N37 hN37 => ?_
       refine pwp_reg fun R38 hR38 => ?_
       refine pops_mv (.inl rfl) rfl (by simp only [St.eval, upd_at, Nat.reduceEqDiff, if_true, if_false, e0_1, e0_0, e0_10, e0_11, e0_12, hget, Int.toNat_natCast, faultPV] <;> rfl) ?_
       refine pops_mv (.inl rfl) rfl (by simp only [St.eval, upd_at, Nat.reduceEqDiff, if_true, if_false, e0_1, e0_0, e0_10, e0_11, e0_12, hget, Int.toNat_natCast, faultPV] <;> rfl) ?_
       refine pops_to rfl fun M hM => ?_
       simp only [pop, St.eval, constSlot, upd_at, Nat.reduceEqDiff, if_true, if_false, popSlice, boundOf, Option.map_none, Option.map_some, Tryd.underlying40, sz81, eq_self, true_and, and_true, str_list, str_size, str_app, str_cut, str_get, e0_1, e0_0, e0_10, e0_11, e0_12, hget, Int.toNat_natCast, faultPV, Int.toNat_natCast, Int.toNat_zero, List.drop_zero, ← List.map_take]
       refine ⟨Int.le_refl _, by omega, by simp; omega, hM _ _ ?_⟩
       clear hM M
       refine pops_to rfl fun M hM => ?_
       simp only [pop, St.eval, constSlot, upd_at, Nat.reduceEqDiff, if_true, if_false, onesOf, List.toList_toArray, List.map_cons, List.map_nil, List.mapM_cons, List.mapM_nil, Option.bind_eq_bind, Option.bind_some, Option.pure_def, eq_self, true_and, e0_1, e0_0, e0_10, e0_11, e0_12, hget, Int.toNat_natCast, faultPV]
       refine hM _ _ ?_
       clear hM M
       refine pops_to rfl fun M hM => ?_
       simp only [pop, St.eval, constSlot, upd_at, Nat.reduceEqDiff, if_true, if_false, popCall, List.toList_toArray, List.map_cons, List.map_nil, svs, List.mapM_cons, List.mapM_nil, Option.bind_eq_bind, Option.bind_some, Option.pure_def, List.append_nil, List.cons_append, List.nil_append, str_size, e0_1, e0_0, e0_10, e0_11, e0_12, hget, Int.toNat_natCast, faultPV]
       refine PFun.use (containsF_fun W0 95 [.rop (faultPV f)] (sameF f) false (l.take i) (fun g _ => sameF_fun W0 f g) (by rw [List.length_take]; omega)) fun h1 s1 => hM _ _ ?_
       replace s1 := Same.trans sv18 s1
       clear hM M
       refine pops_mv (.inr rfl) rfl (by simp only [St.eval, upd_at, Nat.reduceEqDiff, if_true, if_false, e0_1, e0_0, e0_10, e0_11, e0_12, hget, Int.toNat_natCast, faultPV] <;> rfl) ?_
       refine pops_done (hR38 _ ?_)
       clear hR38 R38
       try simp only [thenK, scopeK]
       refine hN37 _ ?_
       clear hN37 N37
       refine pwp_cond (by simp only [St.eval, upd_at, Nat.reduceEqDiff, if_true, if_false, e0_1, e0_0, e0_10, e0_11, e0_12, hget, Int.toNat_natCast, faultPV] <;> rfl) (fun c59 => ?_) (fun c59 => ?_)
       ·skip
        have hfe : fE (l.take i) f = 4 := by rw [fE, if_neg (by rw [c17]; simp), if_neg (by rw [c26]; simp), if_neg (by rw [show errB f = false from c40]; simp), if_pos c59]
        have he0 : faultsE l = 4 := by rw [faultsE, if_neg (by omega)]; exact fsE_hit hx hfe (by decide) hx0_1
        refine pwp_then fun N39 hN39 => ?_
        refine pwp_reg fun R40 hR40 => ?_
        refine pops_mv (.inr rfl) rfl (by simp only [St.eval, constSlot] <;> rfl) ?_
        refine pops_done (hR40 _ ?_)
        clear hR40 R40
        try simp only [thenK, scopeK]
        refine hN39 _ ?_
        clear hN39 N39
        refine pwp_ret ?_
        simp only [thenK, blockK, scopeK, bodyK]
        clear hN14 N14 hN8 N8
        refine ⟨_, rfl, ?_⟩
        try simp only [upd_at, Nat.reduceEqDiff, if_true, if_false, e0_1, e0_0, e0_10, e0_11, e0_12, hget, Int.toNat_natCast, faultPV]
        exact ⟨_, _, .refl _ _ _, by rw [he0], cells, hcl, by rw [(show Same h _ from s1).1]; exact hc, minus_same s1⟩
       ·skip
        have hfe : fE (l.take i) f = 0 := by rw [fE, if_neg (by rw [c17]; simp), if_neg (by rw [c26]; simp), if_neg (by rw [show errB f = false from c40]; simp), if_neg (by rw [c59]; simp)]
        refine pwp_skip ?_
        try simp only [blockK, thenK, scopeK]
        try simp only [blockK, thenK, scopeK]
        try simp only [thenK, scopeK]
        refine hN14 _ ?_
        clear hN14 N14
        refine pwp_reg fun R41 hR41 => ?_
        refine pops_to rfl fun M hM => ?_
        simp only [pop, St.eval, constSlot, upd_at, Nat.reduceEqDiff, if_true, if_false, popBin, binK, intK, strK, eqK, eq_self, true_and, and_true, e0_1, e0_0, e0_10, e0_11, e0_12, hget, Int.toNat_natCast, faultPV]
        refine hM _ _ ?_
        clear hM M
        refine pops_mv (.inl rfl) rfl (by simp only [St.eval, upd_at, Nat.reduceEqDiff, if_true, if_false, e0_1, e0_0, e0_10, e0_11, e0_12, hget, Int.toNat_natCast, faultPV] <;> rfl) ?_
        refine pops_done (hR41 _ ?_)
        clear hR41 R41
        try simp only [thenK, scopeK]
        exact ⟨_, by omega, _, .refl _ _, i + 1, rfl, by omega, fsE_step hx hfe hx0_1, s1, by simp only [upd_at, Nat.reduceEqDiff, if_true, if_false, e0_1, e0_0, e0_10, e0_11, e0_12, hget, Int.toNat_natCast, faultPV], by simp only [upd_at, Nat.reduceEqDiff, if_true, if_false, e0_1, e0_0, e0_10, e0_11, e0_12, hget, Int.toNat_natCast, faultPV], by simp only [upd_at, Nat.reduceEqDiff, if_true, if_false, e0_1, e0_0, e0_10, e0_11, e0_12, hget, Int.toNat_natCast, faultPV], by simp only [upd_at, Nat.reduceEqDiff, if_true, if_false, e0_1, e0_0, e0_10, e0_11, e0_12, hget, Int.toNat_natCast, faultPV], by simp only [upd_at, Nat.reduceEqDiff, if_true, if_false, e0_12]; rw [wrap_succ (by omega)]⟩
   ·skip
    have hi := of_decide_eq_false c13
    have he0 : faultsE l = 0 := by rw [faultsE, if_neg (by omega)]; exact fsE_end hi hx0_1
    refine pwp_exit ?_
    try simp only [thenK, blockK, scopeK, if_true, Nat.reduceEqDiff, if_false]
    clear hN13 N13
    try simp only [blockK, scopeK, if_true, Nat.reduceEqDiff, if_false, thenK]
    try simp only [thenK, scopeK]
    refine hN8 _ ?_
    clear hN8 N8
    refine pwp_then fun N42 hN42 => ?_
    refine pwp_reg fun R43 hR43 => ?_
    refine pops_mv (.inl rfl) rfl (by simp only [St.eval, upd_at, Nat.reduceEqDiff, if_true, if_false, e0_1, e0_0, e0_10, e0_11, e0_12] <;> rfl) ?_
    refine pops_mv (.inl rfl) rfl (by simp only [St.eval, upd_at, Nat.reduceEqDiff, if_true, if_false, e0_1, e0_0, e0_10, e0_11, e0_12] <;> rfl) ?_
    refine pops_to rfl fun M hM => ?_
    simp only [pop, St.eval, constSlot, upd_at, Nat.reduceEqDiff, if_true, if_false, popCall, List.toList_toArray, List.map_cons, List.map_nil, svs, List.mapM_cons, List.mapM_nil, Option.bind_eq_bind, Option.bind_some, Option.pure_def, List.append_nil, List.cons_append, List.nil_append, str_size, e0_1, e0_0, e0_10, e0_11, e0_12]
    refine PFun.use (cloneF_fun W0 full l hl0) fun h2 s2 => hM _ _ ?_
    replace s2 := Same.trans sl0 s2
    clear hM M
    refine pops_to rfl fun M hM => ?_
    simp only [pop, St.eval, constSlot, upd_at, Nat.reduceEqDiff, if_true, if_false, eq_self, true_and, and_true, str_list, str_size, str_app, str_cut, str_get, e0_1, e0_0, e0_10, e0_11, e0_12]
    refine hM _ _ ?_
    clear hM M
    refine pops_to rfl fun M hM => ?_
    simp only [pop, St.eval, constSlot, upd_at, Nat.reduceEqDiff, if_true, if_false, popFieldAddr, fieldOf, List.drop_succ_cons, List.drop_zero, List.getElem?_toArray, List.getElem?_cons_zero, List.getElem?_cons_succ, Tryd.underlying93, sz40, e0_1, e0_0, e0_10, e0_11, e0_12]
    refine ⟨⟨_, rfl⟩, hM _ _ ?_⟩
    clear hM M
    refine pops_no fun M hM => ?_
    simp only [pop, St.eval, constSlot, upd_at, Nat.reduceEqDiff, if_true, if_false, eq_self, true_and, and_true, str_list, str_size, str_app, str_cut, str_get, e0_1, e0_0, e0_10, e0_11, e0_12]
    have hS15 : Same h _ := s2
    refine fld_store (cells := cells) (by rw [hS15.1]; exact hc) hcl (by decide) rfl sz40 fun cells2 hcl2 => hM _ _ ?_
    have hc2 : (Hp.set h2 id ⟨93, 20, [cells2], 0, true⟩).blk id = some ⟨93, 20, [cells2], 0, true⟩ := blk_set _ _ _
    have hidl := hb id _ hc
    clear hM M
    refine pops_done (hR43 _ ?_)
    clear hR43 R43
    try simp only [thenK, scopeK]
    refine hN42 _ ?_
    clear hN42 N42
    refine pwp_then fun N44 hN44 => ?_
    refine pwp_reg fun R45 hR45 => ?_
    refine pops_mv (.inl rfl) rfl (by simp only [St.eval, upd_at, Nat.reduceEqDiff, if_true, if_false, e0_1, e0_0, e0_10, e0_11, e0_12] <;> rfl) ?_
    refine pops_to rfl fun M hM => ?_
    simp only [pop, St.eval, constSlot, upd_at, Nat.reduceEqDiff, if_true, if_false, popMakeSlice, Tryd.underlying22, sz3, ze3, by3, zeroCells', eq_self, true_and, and_true, str_list, str_size, str_app, str_cut, str_get, e0_1, e0_0, e0_10, e0_11, e0_12]
    refine ⟨by decide, rfl, by kernel_rfl, by decide, by decide, by decide, by decide, fun id2 hid2 => hM _ _ ?_⟩
    have hid3 : id ≠ id2 := by have := hS15.2; simp only [Hp.set] at hid2; omega
    have hc3 := new_at (b := ⟨3, 1, List.replicate (14 : Int).toNat [PV.val (.int .i64 0)], 0, true⟩) hid3 hc2
    clear hM M
    refine pops_to rfl fun M hM => ?_
    simp only [pop, St.eval, constSlot, upd_at, Nat.reduceEqDiff, if_true, if_false, eq_self, true_and, and_true, str_list, str_size, str_app, str_cut, str_get, e0_1, e0_0, e0_10, e0_11, e0_12]
    refine hM _ _ ?_
    clear hM M
    refine pops_to rfl fun M hM => ?_
    simp only [pop, St.eval, constSlot, upd_at, Nat.reduceEqDiff, if_true, if_false, popFieldAddr, fieldOf, List.drop_succ_cons, List.drop_zero, List.getElem?_toArray, List.getElem?_cons_zero, List.getElem?_cons_succ, Tryd.underlying93, sz22, e0_1, e0_0, e0_10, e0_11, e0_12]
    refine ⟨⟨_, rfl⟩, hM _ _ ?_⟩
    clear hM M
    refine pops_no fun M hM => ?_
    simp only [pop, St.eval, constSlot, upd_at, Nat.reduceEqDiff, if_true, if_false, eq_self, true_and, and_true, str_list, str_size, str_app, str_cut, str_get, e0_1, e0_0, e0_10, e0_11, e0_12]
    refine fld_store (cells := cells2) hc3 hcl2 (by decide) rfl sz22 fun cells3 hcl3 => hM _ _ ?_
    clear hM M
    refine pops_done (hR45 _ ?_)
    clear hR45 R45
    try simp only [thenK, scopeK]
    refine hN44 _ ?_
    clear hN44 N44
    refine pwp_then fun N46 hN46 => ?_
    refine pwp_reg fun R47 hR47 => ?_
    refine pops_mv (.inr rfl) rfl (by simp only [St.eval, constSlot] <;> rfl) ?_
    refine pops_done (hR47 _ ?_)
    clear hR47 R47
    try simp only [thenK, scopeK]
    refine hN46 _ ?_
    clear hN46 N46
    refine pwp_ret ?_
    simp only [thenK, blockK, scopeK, bodyK]
    refine ⟨_, rfl, ?_⟩
    try simp only [upd_at, Nat.reduceEqDiff, if_true, if_false, e0_1, e0_0, e0_10, e0_11, e0_12]
    exact ⟨_, _, .refl _ _ _, by rw [he0], cells3, hcl3, blk_set _ _ _, minus_plan hb hS15 hid2⟩

theorem newClockRo_fun (W0 : World) (t : Int) :
  PFun Tryd.prog W0 16 [.one (pint t)] (.sv (.one (.rop [pint (clampR t)]))) := by
 intro h
 refine pcalls1 (n := 8) Tryd.func16 rfl nm16 rfl fun hb => ?_
 refine pwp_then fun N1 hN1 => ?_
 refine pwp_reg fun R2 hR2 => ?_
 refine pops_mv (.inr rfl) rfl (by simp only [St.eval, constSlot] <;> rfl) ?_
 refine pops_done (hR2 _ ?_)
 clear hR2 R2
 try simp only [thenK, scopeK]
 refine hN1 _ ?_
 clear hN1 N1
 refine pwp_then fun N3 hN3 => ?_
 refine pwp_reg fun R4 hR4 => ?_
 refine pops_mv (.inl rfl) rfl (by simp only [St.eval, upd_at, Nat.reduceEqDiff, if_true, if_false] <;> rfl) ?_
 refine pops_to rfl fun M hM => ?_
 simp only [pop, St.eval, constSlot, upd_at, Nat.reduceEqDiff, if_true, if_false, popCall, List.toList_toArray, List.map_cons, List.map_nil, popBuiltin, eq_self, true_and, and_true, str_list, str_size, str_app, str_cut, str_get]
 refine hM _ _ ?_
 clear hM M
 refine pops_to rfl fun M hM => ?_
 simp only [pop, St.eval, constSlot, upd_at, Nat.reduceEqDiff, if_true, if_false, popCall, List.toList_toArray, List.map_cons, List.map_nil, popBuiltin, eq_self, true_and, and_true, str_list, str_size, str_app, str_cut, str_get]
 refine hM _ _ ?_
 clear hM M
 refine pops_to rfl fun M hM => ?_
 simp only [pop, St.eval, constSlot, upd_at, Nat.reduceEqDiff, if_true, if_false, fillP, slotCells, splice, List.toList_toArray, List.map_cons, List.map_nil, List.length_cons, List.length_nil, Nat.zero_add, Nat.reduceAdd, Nat.reduceLeDiff, List.take_zero, List.take_succ_cons, List.take_nil, List.drop_succ_cons, List.drop_zero, List.drop_nil, List.nil_append, List.cons_append, List.append_nil, and_self, List.getElem?_cons_zero, List.getElem?_cons_succ, List.set_cons_zero, List.set_cons_succ, Option.some.injEq, bd76, eq_self, true_and, and_true, str_list, str_size, str_app, str_cut, str_get]
 refine hM _ _ ?_
 clear hM M
 refine pops_to rfl fun M hM => ?_
 simp only [pop, St.eval, constSlot, upd_at, Nat.reduceEqDiff, if_true, if_false, popBox, popBoxRo, slotCells]
 refine .inr ⟨Nat.succ_pos _, hM _ _ ?_⟩
 clear hM M
 refine pops_mv (.inr rfl) rfl (by simp only [St.eval, upd_at, Nat.reduceEqDiff, if_true, if_false] <;> rfl) ?_
 refine pops_done (hR4 _ ?_)
 clear hR4 R4
 try simp only [thenK, scopeK]
 refine hN3 _ ?_
 clear hN3 N3
 refine pwp_ret ?_
 simp only [thenK, blockK, scopeK, bodyK]
 refine ⟨_, rfl, endFun (Same.refl _) ?_⟩
 try simp only [upd_at, Nat.reduceEqDiff, if_true, if_false]
 all_goals
  rfl

theorem nm29 : (Tryd.f29.name == "runtime.NumGoroutine") = false := by kernel_rfl
theorem newNil_fun (W0 : World) (x : Feat) (hf : x.forbid.length ≤ 9223372036854775807) (full : Bool) (l : List Fault) (hn : l.length ≤ 9223372036854775807) :
  PFun Tryd.prog W0 29 [.agg (featPV x), .one (.val (.pointer none)), .one (.ro full 4 (l.map faultPV))] (.tup [.one (newP (newN x)), .one (pint (newN x))]) := by
 intro h
 refine pcalls3 (n := 35) Tryd.func29 rfl nm29 rfl fun hb => ?_
 refine pwp_then fun N1 hN1 => ?_
 refine pwp_reg fun R2 hR2 => ?_
 refine pops_to rfl fun M hM => ?_
 simp only [pop, St.eval, constSlot, upd_at, Nat.reduceEqDiff, if_true, if_false, popBox, popBoxRo, slotCells, featPV]
 refine .inr ⟨Nat.succ_pos _, hM _ _ ?_⟩
 clear hM M
 refine pops_mv (.inr rfl) rfl (by simp only [St.eval, constSlot] <;> rfl) ?_
 refine pops_mv (.inr rfl) rfl (by simp only [St.eval, constSlot] <;> rfl) ?_
 refine pops_done (hR2 _ ?_)
 clear hR2 R2
 try simp only [thenK, scopeK]
 refine hN1 _ ?_
 clear hN1 N1
 refine pwp_then fun N3 hN3 => ?_
 refine pwp_then fun N4 hN4 => ?_
 refine pwp_reg fun R5 hR5 => ?_
 refine pops_to rfl fun M hM => ?_
 simp only [pop, St.eval, constSlot, upd_at, Nat.reduceEqDiff, if_true, if_false, List.length_cons, List.length_nil, Nat.zero_add, Nat.reduceAdd, Nat.reduceLeDiff, List.take_zero, List.take_succ_cons, List.take_nil, List.drop_succ_cons, List.drop_zero, List.drop_nil, List.nil_append, List.cons_append, List.append_nil, and_self, List.getElem?_cons_zero, List.getElem?_cons_succ, List.set_cons_zero, List.set_cons_succ, Option.some.injEq, popLoad, loadK, isAggD, List.drop_zero, List.getElem?_toArray, List.getElem?_cons_zero, List.getElem?_cons_succ, Bool.false_eq_true, Tryd.underlying39, sz39, eq_self, true_and, and_true, featPV]
 refine hM _ _ ?_
 clear hM M
 refine pops_to rfl fun M hM => ?_
 simp only [pop, St.eval, constSlot, upd_at, Nat.reduceEqDiff, if_true, if_false, popCall, List.toList_toArray, List.map_cons, List.map_nil, svs, List.mapM_cons, List.mapM_nil, Option.bind_eq_bind, Option.bind_some, Option.pure_def, List.append_nil, List.cons_append, List.nil_append, str_size, featPV]
 refine PFun.use (checkFeat_fun W0 x hf) fun h1 s1 => hM _ _ ?_
 replace s1 := Same.trans (Same.refl _) s1
 clear hM M
 refine pops_mv (.inr rfl) rfl (by simp only [St.eval, upd_at, Nat.reduceEqDiff, if_true, if_false, featPV] <;> rfl) ?_
 refine pops_done (hR5 _ ?_)
 clear hR5 R5
 try simp only [thenK, scopeK]
 refine hN4 _ ?_
 clear hN4 N4
 refine pwp_then fun N6 hN6 => ?_
 refine pwp_reg fun R7 hR7 => ?_
 refine pops_mv (.inl rfl) rfl (by simp only [St.eval, upd_at, Nat.reduceEqDiff, if_true, if_false, featPV] <;> rfl) ?_
 refine pops_to rfl fun M hM => ?_
 simp only [pop, St.eval, constSlot, upd_at, Nat.reduceEqDiff, if_true, if_false, popBin, binK, intK, strK, eqK, Tryd.underlying31, isPtr, eq_self, true_and, and_true, featPV]
 refine hM _ _ ?_
 clear hM M
 refine pops_done (hR7 _ ?_)
 clear hR7 R7
 try simp only [thenK, scopeK]
 refine hN6 _ ?_
 clear hN6 N6
 refine pwp_cond (by simp only [St.eval, upd_at, Nat.reduceEqDiff, if_true, if_false, featPV] <;> rfl) (fun c14 => ?_) (fun c14 => ?_)
 ·skip
  have hne : featE x ≠ 0 := by simpa using c14
  have hE : newN x = featE x := by rw [newN, if_pos hne]
  have hP : newP (featE x) = .val (.pointer none) := by rw [newP, if_neg hne]
  refine pwp_then fun N8 hN8 => ?_
  refine pwp_reg fun R9 hR9 => ?_
  refine pops_mv (.inl rfl) rfl (by simp only [St.eval, upd_at, Nat.reduceEqDiff, if_true, if_false, featPV] <;> rfl) ?_
  refine pops_mv (.inr rfl) rfl (by simp only [St.eval, constSlot] <;> rfl) ?_
  refine pops_mv (.inr rfl) rfl (by simp only [St.eval, upd_at, Nat.reduceEqDiff, if_true, if_false, featPV] <;> rfl) ?_
  refine pops_done (hR9 _ ?_)
  clear hR9 R9
  try simp only [thenK, scopeK]
  refine hN8 _ ?_
  clear hN8 N8
  refine pwp_ret ?_
  simp only [thenK, blockK, scopeK, bodyK]
  clear hN3 N3
  exact ⟨_, rfl, by rw [hE, hP]; exact endKeeps2 (Same.keeps s1) rfl⟩
 ·skip
  have h00 : featE x = 0 := by simpa using c14
  have hE : newN x = 6 := by rw [newN, if_neg (by rw [h00]; simp)]
  refine pwp_skip ?_
  try simp only [thenK, scopeK]
  refine hN3 _ ?_
  clear hN3 N3
  refine pwp_then fun N10 hN10 => ?_
  refine pwp_then fun N11 hN11 => ?_
  refine pwp_reg fun R12 hR12 => ?_
  refine pops_mv (.inl rfl) rfl (by simp only [St.eval, upd_at, Nat.reduceEqDiff, if_true, if_false, featPV] <;> rfl) ?_
  refine pops_to rfl fun M hM => ?_
  simp only [pop, St.eval, constSlot, upd_at, Nat.reduceEqDiff, if_true, if_false, popBin, binK, intK, strK, eqK, Tryd.underlying24, isPtr, eq_self, true_and, and_true, featPV]
  refine hM _ _ ?_
  clear hM M
  refine pops_done (hR12 _ ?_)
  clear hR12 R12
  try simp only [thenK, scopeK]
  refine hN11 _ ?_
  clear hN11 N11
  refine pwp_cond_true (by simp only [St.eval, upd_at, Nat.reduceEqDiff, if_true, if_false, featPV] <;> rfl) ?_
  refine pwp_then fun N13 hN13 => ?_
  refine pwp_reg fun R14 hR14 => ?_
  refine pops_mv (.inr rfl) rfl (by simp only [St.eval, constSlot] <;> rfl) ?_
  refine pops_mv (.inr rfl) rfl (by simp only [St.eval, constSlot] <;> rfl) ?_
  refine pops_done (hR14 _ ?_)
  clear hR14 R14
  try simp only [thenK, scopeK]
  refine hN13 _ ?_
  clear hN13 N13
  refine pwp_ret ?_
  simp only [thenK, blockK, scopeK, bodyK]
  clear hN10 N10
  exact ⟨_, rfl, by rw [hE]; exact endKeeps2 (Same.keeps s1) rfl⟩

theorem newClk_fun (W0 : World) (x : Feat) (hf : x.forbid.length ≤ 9223372036854775807) (full : Bool) (l : List Fault) (hn : l.length ≤ 9223372036854775807) (cs : List PV) :
  PFun Tryd.prog W0 29 [.agg (featPV x), .one (.rop cs), .one (.ro full 4 (l.map faultPV))] (.tup [.one (newP (newE x l)), .one (pint (newE x l))]) := by
 intro h
 refine pcalls3 (n := 35) Tryd.func29 rfl nm29 rfl fun hb => ?_
 refine pwp_then fun N1 hN1 => ?_
 refine pwp_reg fun R2 hR2 => ?_
 refine pops_to rfl fun M hM => ?_
 simp only [pop, St.eval, constSlot, upd_at, Nat.reduceEqDiff, if_true, if_false, popBox, popBoxRo, slotCells, featPV]
 refine .inr ⟨Nat.succ_pos _, hM _ _ ?_⟩
 clear hM M
 refine pops_mv (.inr rfl) rfl (by simp only [St.eval, constSlot] <;> rfl) ?_
 refine pops_mv (.inr rfl) rfl (by simp only [St.eval, constSlot] <;> rfl) ?_
 refine pops_done (hR2 _ ?_)
 clear hR2 R2
 try simp only [thenK, scopeK]
 refine hN1 _ ?_
 clear hN1 N1
 refine pwp_then fun N3 hN3 => ?_
 refine pwp_then fun N4 hN4 => ?_
 refine pwp_reg fun R5 hR5 => ?_
 refine pops_to rfl fun M hM => ?_
 simp only [pop, St.eval, constSlot, upd_at, Nat.reduceEqDiff, if_true, if_false, List.length_cons, List.length_nil, Nat.zero_add, Nat.reduceAdd, Nat.reduceLeDiff, List.take_zero, List.take_succ_cons, List.take_nil, List.drop_succ_cons, List.drop_zero, List.drop_nil, List.nil_append, List.cons_append, List.append_nil, and_self, List.getElem?_cons_zero, List.getElem?_cons_succ, List.set_cons_zero, List.set_cons_succ, Option.some.injEq, popLoad, loadK, isAggD, List.drop_zero, List.getElem?_toArray, List.getElem?_cons_zero, List.getElem?_cons_succ, Bool.false_eq_true, Tryd.underlying39, sz39, eq_self, true_and, and_true, featPV]
 refine hM _ _ ?_
 clear hM M
 refine pops_to rfl fun M hM => ?_
 simp only [pop, St.eval, constSlot, upd_at, Nat.reduceEqDiff, if_true, if_false, popCall, List.toList_toArray, List.map_cons, List.map_nil, svs, List.mapM_cons, List.mapM_nil, Option.bind_eq_bind, Option.bind_some, Option.pure_def, List.append_nil, List.cons_append, List.nil_append, str_size, featPV]
 refine PFun.use (checkFeat_fun W0 x hf) fun h1 s1 => hM _ _ ?_
 replace s1 := Same.trans (Same.refl _) s1
 clear hM M
 refine pops_mv (.inr rfl) rfl (by simp only [St.eval, upd_at, Nat.reduceEqDiff, if_true, if_false, featPV] <;> rfl) ?_
 refine pops_done (hR5 _ ?_)
 clear hR5 R5
 try simp only [thenK, scopeK]
 refine hN4 _ ?_
 clear hN4 N4
 refine pwp_then fun N6 hN6 => ?_
 refine pwp_reg fun R7 hR7 => ?_
 refine pops_mv (.inl rfl) rfl (by simp only [St.eval, upd_at, Nat.reduceEqDiff, if_true, if_false, featPV] <;> rfl) ?_
 refine pops_to rfl fun M hM => ?_
 simp only [pop, St.eval, constSlot, upd_at, Nat.reduceEqDiff, if_true, if_false, popBin, binK, intK, strK, eqK, Tryd.underlying31, isPtr, eq_self, true_and, and_true, featPV]
 refine hM _ _ ?_
 clear hM M
 refine pops_done (hR7 _ ?_)
 clear hR7 R7
 try simp only [thenK, scopeK]
 refine hN6 _ ?_
 clear hN6 N6
 refine pwp_cond (by simp only [St.eval, upd_at, Nat.reduceEqDiff, if_true, if_false, featPV] <;> rfl) (fun c14 => ?_) (fun c14 => ?_)
 ·skip
  have hne : featE x ≠ 0 := by simpa using c14
  have hE : newE x l = featE x := by rw [newE, if_pos hne]
  have hP : newP (featE x) = .val (.pointer none) := by rw [newP, if_neg hne]
  refine pwp_then fun N8 hN8 => ?_
  refine pwp_reg fun R9 hR9 => ?_
  refine pops_mv (.inl rfl) rfl (by simp only [St.eval, upd_at, Nat.reduceEqDiff, if_true, if_false, featPV] <;> rfl) ?_
  refine pops_mv (.inr rfl) rfl (by simp only [St.eval, constSlot] <;> rfl) ?_
  refine pops_mv (.inr rfl) rfl (by simp only [St.eval, upd_at, Nat.reduceEqDiff, if_true, if_false, featPV] <;> rfl) ?_
  refine pops_done (hR9 _ ?_)
  clear hR9 R9
  try simp only [thenK, scopeK]
  refine hN8 _ ?_
  clear hN8 N8
  refine pwp_ret ?_
  simp only [thenK, blockK, scopeK, bodyK]
  clear hN3 N3
  exact ⟨_, rfl, by rw [hE, hP]; exact endKeeps2 (Same.keeps s1) rfl⟩
 ·skip
  have h00 : featE x = 0 := by simpa using c14
  have hE : newE x l = faultsE l := by rw [newE, if_neg (by rw [h00]; simp)]
  refine pwp_skip ?_
  try simp only [thenK, scopeK]
  refine hN3 _ ?_
  clear hN3 N3
  refine pwp_then fun N10 hN10 => ?_
  refine pwp_then fun N11 hN11 => ?_
  refine pwp_reg fun R12 hR12 => ?_
  refine pops_mv (.inl rfl) rfl (by simp only [St.eval, upd_at, Nat.reduceEqDiff, if_true, if_false, featPV] <;> rfl) ?_
  refine pops_to rfl fun M hM => ?_
  simp only [pop, St.eval, constSlot, upd_at, Nat.reduceEqDiff, if_true, if_false, popBin, binK, intK, strK, eqK, Tryd.underlying24, isPtr, eq_self, true_and, and_true, featPV]
  refine hM _ _ ?_
  clear hM M
  refine pops_done (hR12 _ ?_)
  clear hR12 R12
  try simp only [thenK, scopeK]
  refine hN11 _ ?_
  clear hN11 N11
  refine pwp_cond_false (by simp only [St.eval, upd_at, Nat.reduceEqDiff, if_true, if_false, featPV] <;> rfl) ?_
  refine pwp_skip ?_
  try simp only [thenK, scopeK]
  refine hN10 _ ?_
  clear hN10 N10
  refine pwp_then fun N13 hN13 => ?_
  refine pwp_dreg 9 mixed (by decide +kernel) fun R14 hR14 => ?_
  simp only [List.take_succ_cons, List.take_zero, List.drop_succ_cons, List.drop_zero]
  apply lex_to
  · rfl
  ·intro h' s' M hM
   simp only [pop, St.eval, constSlot, upd_at, Nat.reduceEqDiff, if_true, if_false, List.length_cons, List.length_nil, Nat.zero_add, Nat.reduceAdd, Nat.reduceLeDiff, List.take_zero, List.take_succ_cons, List.take_nil, List.drop_succ_cons, List.drop_zero, List.drop_nil, List.nil_append, List.cons_append, List.append_nil, and_self, List.getElem?_cons_zero, List.getElem?_cons_succ, List.set_cons_zero, List.set_cons_succ, Option.some.injEq, popLoad, loadK, isAggD, List.drop_zero, List.getElem?_toArray, List.getElem?_cons_zero, List.getElem?_cons_succ, Bool.false_eq_true, Tryd.underlying39, sz39, eq_self, true_and, and_true, featPV, s'.1]
   exact hM _ (.refl _)
  apply lex_to
  · rfl
  ·intro h' s' M hM
   simp only [pop, St.eval, constSlot, upd_at, Nat.reduceEqDiff, if_true, if_false, eq_self, true_and, and_true, str_list, str_size, str_app, str_cut, str_get, featPV, s'.1]
   exact hM _ (.refl _)
  apply lex_to
  · rfl
  ·intro h' s' M hM
   simp only [pop, St.eval, constSlot, upd_at, Nat.reduceEqDiff, if_true, if_false, eq_self, true_and, and_true, str_list, str_size, str_app, str_cut, str_get, featPV, s'.1]
   exact hM _ (.refl _)
  apply lex_to
  · rfl
  ·intro h' s' M hM
   simp only [pop, St.eval, constSlot, upd_at, Nat.reduceEqDiff, if_true, if_false, fillP, slotCells, splice, List.toList_toArray, List.map_cons, List.map_nil, List.length_cons, List.length_nil, Nat.zero_add, Nat.reduceAdd, Nat.reduceLeDiff, List.take_zero, List.take_succ_cons, List.take_nil, List.drop_succ_cons, List.drop_zero, List.drop_nil, List.nil_append, List.cons_append, List.append_nil, and_self, List.getElem?_cons_zero, List.getElem?_cons_succ, List.set_cons_zero, List.set_cons_succ, Option.some.injEq, bd88, eq_self, true_and, and_true, str_list, str_size, str_app, str_cut, str_get, featPV, s'.1]
   exact hM _ (.refl _)
  apply lex_to
  · rfl
  ·intro h' s' M hM
   simp only [pop, St.eval, constSlot, upd_at, Nat.reduceEqDiff, if_true, if_false, popBox, popBoxRo, slotCells, featPV, s'.1]
   exact .inr ⟨Nat.succ_pos _, hM _ (.refl _)⟩
  apply lex_toW
  · rfl
  ·intro h' s' M hM
   simp only [pop, St.eval, constSlot, upd_at, Nat.reduceEqDiff, if_true, if_false, featPV]
   exact make_ro (h0 := h) (n := 14) (hpOk.same hb (Same.trans s1 s')) Tryd.underlying22 sz3 by3 ze3 rfl (by kernel_rfl) (by decide) (by decide) (by decide) hM
  apply lex_to
  · rfl
  ·intro h' s' M hM
   simp only [pop, St.eval, constSlot, upd_at, Nat.reduceEqDiff, if_true, if_false, eq_self, true_and, and_true, str_list, str_size, str_app, str_cut, str_get, featPV, s'.1]
   exact hM _ (.refl _)
  apply lex_to
  · rfl
  ·intro h' s' M hM
   simp only [pop, St.eval, constSlot, upd_at, Nat.reduceEqDiff, if_true, if_false, eq_self, true_and, and_true, str_list, str_size, str_app, str_cut, str_get, featPV, s'.1]
   exact hM _ (.refl _)
  apply lex_to
  · rfl
  ·intro h' s' M hM
   simp only [pop, St.eval, constSlot, upd_at, Nat.reduceEqDiff, if_true, if_false, fillP, slotCells, splice, List.toList_toArray, List.map_cons, List.map_nil, List.length_cons, List.length_nil, Nat.zero_add, Nat.reduceAdd, Nat.reduceLeDiff, List.take_zero, List.take_succ_cons, List.take_nil, List.drop_succ_cons, List.drop_zero, List.drop_nil, List.nil_append, List.cons_append, List.append_nil, and_self, List.getElem?_cons_zero, List.getElem?_cons_succ, List.set_cons_zero, List.set_cons_succ, Option.some.injEq, bd93, eq_self, true_and, and_true, str_list, str_size, str_app, str_cut, str_get, featPV, s'.1]
   exact hM _ (.refl _)
  refine lex_done fun hq sq => ?_
  replace sq := Same.trans s1 sq
  refine pops_to rfl fun M hM => ?_
  simp only [pop, St.eval, constSlot, upd_at, Nat.reduceEqDiff, if_true, if_false, popBox, popBoxRo, slotCells, featPV]
  refine .inl ?_
  refine ⟨by exact Nat.succ_pos _, fun id hid => hM _ _ ?_⟩
  have hid' : h.lim ≤ id := Nat.le_trans (Same.keeps sq).2 hid
  have hS27 : Same h _ := sq
  clear hM M
  refine pops_mv (.inr rfl) rfl (by simp only [St.eval, upd_at, Nat.reduceEqDiff, if_true, if_false, featPV] <;> rfl) ?_
  refine pops_done (hR14 _ ?_)
  clear hR14 R14
  try simp only [thenK, scopeK]
  refine hN13 _ ?_
  clear hN13 N13
  refine pwp_then fun N15 hN15 => ?_
  refine pwp_then fun N16 hN16 => ?_
  refine pwp_reg fun R17 hR17 => ?_
  refine pops_mv (.inl rfl) rfl (by simp only [St.eval, upd_at, Nat.reduceEqDiff, if_true, if_false, featPV] <;> rfl) ?_
  refine pops_mv (.inl rfl) rfl (by simp only [St.eval, upd_at, Nat.reduceEqDiff, if_true, if_false, featPV] <;> rfl) ?_
  refine pops_to rfl fun M hM => ?_
  simp only [pop, St.eval, constSlot, upd_at, Nat.reduceEqDiff, if_true, if_false, popCall, List.toList_toArray, List.map_cons, List.map_nil, svs, List.mapM_cons, List.mapM_nil, Option.bind_eq_bind, Option.bind_some, Option.pure_def, List.append_nil, List.cons_append, List.nil_append, str_size, featPV]
  refine (plan_fun W0 full l hn id _ _ rfl (blk_new _ _ _)).mono ?_
  rintro _ h9 ⟨rfl, cells9, hcl9, hc9, hk9⟩
  replace hk9 := keeps_pass hb hid' ((Same.keeps hS27).trans (.new (hpOk.same hb hS27) hid)) hk9
  refine hM _ _ ?_
  clear hM M
  refine pops_mv (.inr rfl) rfl (by simp only [St.eval, upd_at, Nat.reduceEqDiff, if_true, if_false, featPV] <;> rfl) ?_
  refine pops_done (hR17 _ ?_)
  clear hR17 R17
  try simp only [thenK, scopeK]
  refine hN16 _ ?_
  clear hN16 N16
  refine pwp_then fun N18 hN18 => ?_
  refine pwp_reg fun R19 hR19 => ?_
  refine pops_mv (.inl rfl) rfl (by simp only [St.eval, upd_at, Nat.reduceEqDiff, if_true, if_false, featPV] <;> rfl) ?_
  refine pops_to rfl fun M hM => ?_
  simp only [pop, St.eval, constSlot, upd_at, Nat.reduceEqDiff, if_true, if_false, popBin, binK, intK, strK, eqK, Tryd.underlying31, isPtr, eq_self, true_and, and_true, featPV]
  refine hM _ _ ?_
  clear hM M
  refine pops_done (hR19 _ ?_)
  clear hR19 R19
  try simp only [thenK, scopeK]
  refine hN18 _ ?_
  clear hN18 N18
  refine pwp_cond (by simp only [St.eval, upd_at, Nat.reduceEqDiff, if_true, if_false, featPV] <;> rfl) (fun c32 => ?_) (fun c32 => ?_)
  ·skip
   have hne : faultsE l ≠ 0 := by simpa using c32
   have hP : newP (faultsE l) = .val (.pointer none) := by rw [newP, if_neg hne]
   refine pwp_then fun N20 hN20 => ?_
   refine pwp_reg fun R21 hR21 => ?_
   refine pops_mv (.inl rfl) rfl (by simp only [St.eval, upd_at, Nat.reduceEqDiff, if_true, if_false, featPV] <;> rfl) ?_
   refine pops_mv (.inr rfl) rfl (by simp only [St.eval, constSlot] <;> rfl) ?_
   refine pops_mv (.inr rfl) rfl (by simp only [St.eval, upd_at, Nat.reduceEqDiff, if_true, if_false, featPV] <;> rfl) ?_
   refine pops_done (hR21 _ ?_)
   clear hR21 R21
   try simp only [thenK, scopeK]
   refine hN20 _ ?_
   clear hN20 N20
   refine pwp_ret ?_
   simp only [thenK, blockK, scopeK, bodyK]
   clear hN15 N15
   exact ⟨_, rfl, by rw [hE, hP]; exact endKeeps2 hk9 rfl⟩
  ·skip
   have hz : faultsE l = 0 := by simpa using c32
   refine pwp_skip ?_
   try simp only [thenK, scopeK]
   refine hN15 _ ?_
   clear hN15 N15
   refine pwp_then fun N22 hN22 => ?_
   refine pwp_reg fun R23 hR23 => ?_
   refine pops_mv (.inl rfl) rfl (by simp only [St.eval, upd_at, Nat.reduceEqDiff, if_true, if_false, featPV] <;> rfl) ?_
   refine pops_mv (.inr rfl) rfl (by simp only [St.eval, upd_at, Nat.reduceEqDiff, if_true, if_false, featPV] <;> rfl) ?_
   refine pops_mv (.inr rfl) rfl (by simp only [St.eval, constSlot] <;> rfl) ?_
   refine pops_done (hR23 _ ?_)
   clear hR23 R23
   try simp only [thenK, scopeK]
   refine hN22 _ ?_
   clear hN22 N22
   refine pwp_ret ?_
   simp only [thenK, blockK, scopeK, bodyK]
   exact ⟨_, rfl, by rw [hE, hz]; exact endPtr2 rfl hc9 hb hid' hk9⟩

theorem nm7 : (Tryd.f7.name == "runtime.NumGoroutine") = false := by kernel_rfl
theorem features_law (W0 : World) (hm : HasMax W0) (x : Feat) (hf : x.forbid.length ≤ 9223372036854775807) (hz : inI64 x.sums) (full : Bool) (l : List Fault) (hn : l.length ≤ 9223372036854775807) (ck : Bool) :
  PFun Tryd.prog W0 7 [.agg (featPV x), .one (.ro full 4 (l.map faultPV)), .one (pbool ck)] (.sv (.one (pbool true))) := by
 intro h
 refine pcalls3 (n := 45) Tryd.func7 rfl nm7 rfl fun hb => ?_
 refine pwp_then fun N1 hN1 => ?_
 refine pwp_reg fun R2 hR2 => ?_
 refine pops_to rfl fun M hM => ?_
 simp only [pop, St.eval, constSlot, upd_at, Nat.reduceEqDiff, if_true, if_false, popBox, popBoxRo, slotCells, featPV]
 refine .inr ⟨Nat.succ_pos _, hM _ _ ?_⟩
 clear hM M
 refine pops_mv (.inr rfl) rfl (by simp only [St.eval, constSlot] <;> rfl) ?_
 refine pops_done (hR2 _ ?_)
 clear hR2 R2
 try simp only [thenK, scopeK]
 refine hN1 _ ?_
 clear hN1 N1
 refine pwp_then fun N3 hN3 => ?_
 refine pwp_then fun N4 hN4 => ?_
 refine pwp_reg fun R5 hR5 => ?_
 refine pops_to rfl fun M hM => ?_
 simp only [pop, St.eval, constSlot, upd_at, Nat.reduceEqDiff, if_true, if_false, popCall, List.toList_toArray, List.map_cons, List.map_nil, svs, List.mapM_cons, List.mapM_nil, Option.bind_eq_bind, Option.bind_some, Option.pure_def, List.append_nil, List.cons_append, List.nil_append, str_size, featPV]
 refine PFun.use (landed_fun W0 hm) fun h1 s1 => hM _ _ ?_
 replace s1 := Same.trans (Same.refl _) s1
 clear hM M
 refine pops_to rfl fun M hM => ?_
 simp only [pop, St.eval, constSlot, upd_at, Nat.reduceEqDiff, if_true, if_false, unK, featPV]
 refine hM _ _ ?_
 clear hM M
 refine pops_done (hR5 _ ?_)
 clear hR5 R5
 try simp only [thenK, scopeK]
 refine hN4 _ ?_
 clear hN4 N4
 refine pwp_cond (by simp only [St.eval, upd_at, Nat.reduceEqDiff, if_true, if_false, featPV] <;> rfl) (fun c12 => ?_) (fun c12 => ?_)
 ·skip
  simp at c12
 ·skip
  refine pwp_skip ?_
  try simp only [thenK, scopeK]
  refine hN3 _ ?_
  clear hN3 N3
  refine pwp_then fun N6 hN6 => ?_
  refine pwp_dreg 4 mixed (by decide +kernel) fun R7 hR7 => ?_
  simp only [List.take_succ_cons, List.take_zero, List.drop_succ_cons, List.drop_zero]
  apply lex_to
  · rfl
  ·intro h' s' M hM
   simp only [pop, St.eval, constSlot, upd_at, Nat.reduceEqDiff, if_true, if_false, List.length_cons, List.length_nil, Nat.zero_add, Nat.reduceAdd, Nat.reduceLeDiff, List.take_zero, List.take_succ_cons, List.take_nil, List.drop_succ_cons, List.drop_zero, List.drop_nil, List.nil_append, List.cons_append, List.append_nil, and_self, List.getElem?_cons_zero, List.getElem?_cons_succ, List.set_cons_zero, List.set_cons_succ, Option.some.injEq, popLoad, loadK, isAggD, List.drop_zero, List.getElem?_toArray, List.getElem?_cons_zero, List.getElem?_cons_succ, Bool.false_eq_true, Tryd.underlying39, sz39, eq_self, true_and, and_true, featPV, s'.1]
   exact hM _ (.refl _)
  apply lex_to
  · rfl
  ·intro h' s' M hM
   simp only [pop, St.eval, constSlot, upd_at, Nat.reduceEqDiff, if_true, if_false, popCall, List.toList_toArray, List.map_cons, List.map_nil, svs, List.mapM_cons, List.mapM_nil, Option.bind_eq_bind, Option.bind_some, Option.pure_def, List.append_nil, List.cons_append, List.nil_append, str_size, featPV, s'.1]
   refine PFun.use (kindsRef_fun W0) fun hp s => hM _ s
  apply lex_to
  · rfl
  ·intro h' s' M hM
   simp only [pop, St.eval, constSlot, upd_at, Nat.reduceEqDiff, if_true, if_false, popCall, List.toList_toArray, List.map_cons, List.map_nil, svs, List.mapM_cons, List.mapM_nil, Option.bind_eq_bind, Option.bind_some, Option.pure_def, List.append_nil, List.cons_append, List.nil_append, str_size, featPV, s'.1]
   refine PFun.use (checkFeatRef_fun W0 x hf hz) fun hp s => hM _ s
  apply lex_to
  · rfl
  ·intro h' s' M hM
   simp only [pop, St.eval, constSlot, upd_at, Nat.reduceEqDiff, if_true, if_false, eq_self, true_and, and_true, str_list, str_size, str_app, str_cut, str_get, featPV, s'.1]
   exact hM _ (.refl _)
  refine lex_done fun hq sq => ?_
  replace sq := Same.trans s1 sq
  refine pops_done (hR7 _ ?_)
  clear hR7 R7
  try simp only [thenK, scopeK]
  refine hN6 _ ?_
  clear hN6 N6
  refine pwp_then fun N8 hN8 => ?_
  refine pwp_then fun N9 hN9 => ?_
  refine pwp_reg fun R10 hR10 => ?_
  refine pops_to rfl fun M hM => ?_
  simp only [pop, St.eval, constSlot, upd_at, Nat.reduceEqDiff, if_true, if_false, List.length_cons, List.length_nil, Nat.zero_add, Nat.reduceAdd, Nat.reduceLeDiff, List.take_zero, List.take_succ_cons, List.take_nil, List.drop_succ_cons, List.drop_zero, List.drop_nil, List.nil_append, List.cons_append, List.append_nil, and_self, List.getElem?_cons_zero, List.getElem?_cons_succ, List.set_cons_zero, List.set_cons_succ, Option.some.injEq, popLoad, loadK, isAggD, List.drop_zero, List.getElem?_toArray, List.getElem?_cons_zero, List.getElem?_cons_succ, Bool.false_eq_true, Tryd.underlying39, sz39, eq_self, true_and, and_true, featPV]
  refine hM _ _ ?_
  clear hM M
  refine pops_to rfl fun M hM => ?_
  simp only [pop, St.eval, constSlot, upd_at, Nat.reduceEqDiff, if_true, if_false, popCall, List.toList_toArray, List.map_cons, List.map_nil, svs, List.mapM_cons, List.mapM_nil, Option.bind_eq_bind, Option.bind_some, Option.pure_def, List.append_nil, List.cons_append, List.nil_append, str_size, featPV]
  refine PFun.use (checkFeat_fun W0 x hf) fun h2 s2 => hM _ _ ?_
  replace s2 := Same.trans sq s2
  clear hM M
  refine pops_mv (.inl rfl) rfl (by simp only [St.eval, upd_at, Nat.reduceEqDiff, if_true, if_false, featPV] <;> rfl) ?_
  refine pops_to rfl fun M hM => ?_
  simp only [pop, St.eval, constSlot, upd_at, Nat.reduceEqDiff, if_true, if_false, popBin, binK, intK, strK, eqK, Tryd.underlying31, isPtr, eq_self, true_and, and_true, featPV]
  refine hM _ _ ?_
  clear hM M
  refine pops_done (hR10 _ ?_)
  clear hR10 R10
  try simp only [thenK, scopeK]
  refine hN9 _ ?_
  clear hN9 N9
  refine pwp_cond (by simp only [St.eval, upd_at, Nat.reduceEqDiff, if_true, if_false, featPV] <;> rfl) (fun c19 => ?_) (fun c19 => ?_)
  ·skip
   simp at c19
  ·skip
   refine pwp_skip ?_
   try simp only [thenK, scopeK]
   refine hN8 _ ?_
   clear hN8 N8
   refine pwp_then fun N11 hN11 => ?_
   refine pwp_reg fun R12 hR12 => ?_
   refine pops_mv (.inr rfl) rfl (by simp only [St.eval, constSlot] <;> rfl) ?_
   refine pops_done (hR12 _ ?_)
   clear hR12 R12
   try simp only [thenK, scopeK]
   refine hN11 _ ?_
   clear hN11 N11
   refine pwp_then fun N13 hN13 => ?_
   refine pwp_then fun N14 hN14 => ?_
   refine pwp_reg fun R15 hR15 => ?_
   refine pops_mv (.inl rfl) rfl (by simp only [St.eval, upd_at, Nat.reduceEqDiff, if_true, if_false, featPV] <;> rfl) ?_
   refine pops_done (hR15 _ ?_)
   clear hR15 R15
   try simp only [thenK, scopeK]
   refine hN14 _ ?_
   clear hN14 N14
   refine pwp_cond (by simp only [St.eval, upd_at, Nat.reduceEqDiff, if_true, if_false, featPV] <;> rfl) (fun c20 => ?_) (fun c20 => ?_)
   ·skip
    refine pwp_reg fun R16 hR16 => ?_
    refine pops_to rfl fun M hM => ?_
    simp only [pop, St.eval, constSlot, upd_at, Nat.reduceEqDiff, if_true, if_false, popCall, List.toList_toArray, List.map_cons, List.map_nil, svs, List.mapM_cons, List.mapM_nil, Option.bind_eq_bind, Option.bind_some, Option.pure_def, List.append_nil, List.cons_append, List.nil_append, str_size, featPV]
    refine PFun.use (newClockRo_fun W0 5) fun h3 s3 => hM _ _ ?_
    replace s3 := Same.trans s2 s3
    clear hM M
    refine pops_mv (.inr rfl) rfl (by simp only [St.eval, upd_at, Nat.reduceEqDiff, if_true, if_false, featPV] <;> rfl) ?_
    refine pops_done (hR16 _ ?_)
    clear hR16 R16
    try simp only [thenK, scopeK]
    refine hN13 _ ?_
    clear hN13 N13
    refine pwp_then fun N17 hN17 => ?_
    refine pwp_then fun N18 hN18 => ?_
    refine pwp_reg fun R19 hR19 => ?_
    refine pops_mv (.inl rfl) rfl (by simp only [St.eval, upd_at, Nat.reduceEqDiff, if_true, if_false, featPV] <;> rfl) ?_
    refine pops_to rfl fun M hM => ?_
    simp only [pop, St.eval, constSlot, upd_at, Nat.reduceEqDiff, if_true, if_false, popBin, binK, intK, strK, eqK, Tryd.underlying31, isPtr, eq_self, true_and, and_true, featPV]
    refine hM _ _ ?_
    clear hM M
    refine pops_done (hR19 _ ?_)
    clear hR19 R19
    try simp only [thenK, scopeK]
    refine hN18 _ ?_
    clear hN18 N18
    refine pwp_cond (by simp only [St.eval, upd_at, Nat.reduceEqDiff, if_true, if_false, featPV] <;> rfl) (fun c25 => ?_) (fun c25 => ?_)
    ·skip
     refine pwp_reg fun R20 hR20 => ?_
     refine pops_mv (.inl rfl) rfl (by simp only [St.eval, upd_at, Nat.reduceEqDiff, if_true, if_false, featPV] <;> rfl) ?_
     refine pops_to rfl fun M hM => ?_
     simp only [pop, St.eval, constSlot, upd_at, Nat.reduceEqDiff, if_true, if_false, popCall, List.toList_toArray, List.map_cons, List.map_nil, svs, List.mapM_cons, List.mapM_nil, Option.bind_eq_bind, Option.bind_some, Option.pure_def, List.append_nil, List.cons_append, List.nil_append, str_size, featPV]
     refine PFun.use (faultsRef_fun W0 full l hn) fun h4 s4 => hM _ _ ?_
     replace s4 := Same.trans s3 s4
     clear hM M
     refine pops_mv (.inr rfl) rfl (by simp only [St.eval, upd_at, Nat.reduceEqDiff, if_true, if_false, featPV] <;> rfl) ?_
     refine pops_done (hR20 _ ?_)
     clear hR20 R20
     try simp only [thenK, scopeK]
     refine hN17 _ ?_
     clear hN17 N17
     refine pwp_then fun N21 hN21 => ?_
     refine pwp_reg fun R22 hR22 => ?_
     refine pops_to rfl fun M hM => ?_
     simp only [pop, St.eval, constSlot, upd_at, Nat.reduceEqDiff, if_true, if_false, List.length_cons, List.length_nil, Nat.zero_add, Nat.reduceAdd, Nat.reduceLeDiff, List.take_zero, List.take_succ_cons, List.take_nil, List.drop_succ_cons, List.drop_zero, List.drop_nil, List.nil_append, List.cons_append, List.append_nil, and_self, List.getElem?_cons_zero, List.getElem?_cons_succ, List.set_cons_zero, List.set_cons_succ, Option.some.injEq, popLoad, loadK, isAggD, List.drop_zero, List.getElem?_toArray, List.getElem?_cons_zero, List.getElem?_cons_succ, Bool.false_eq_true, Tryd.underlying39, sz39, eq_self, true_and, and_true, featPV]
     refine hM _ _ ?_
     clear hM M
     refine pops_mv (.inl rfl) rfl (by simp only [St.eval, upd_at, Nat.reduceEqDiff, if_true, if_false, featPV] <;> rfl) ?_
     refine pops_mv (.inl rfl) rfl (by simp only [St.eval, upd_at, Nat.reduceEqDiff, if_true, if_false, featPV] <;> rfl) ?_
     refine pops_to rfl fun M hM => ?_
     simp only [pop, St.eval, constSlot, upd_at, Nat.reduceEqDiff, if_true, if_false, popCall, List.toList_toArray, List.map_cons, List.map_nil, svs, List.mapM_cons, List.mapM_nil, Option.bind_eq_bind, Option.bind_some, Option.pure_def, List.append_nil, List.cons_append, List.nil_append, str_size, featPV]
     first
       | refine PFun.use (newClk_fun W0 x hf full l hn _) fun h9 s9 => hM _ _ ?_
       | refine PFun.use (newNil_fun W0 x hf full l hn) fun h9 s9 => hM _ _ ?_
     replace s9 := Same.trans s4 s9
     clear hM M
     refine pops_mv (.inl rfl) rfl (by simp only [St.eval, upd_at, Nat.reduceEqDiff, if_true, if_false, featPV] <;> rfl) ?_
     refine pops_to rfl fun M hM => ?_
     simp only [pop, St.eval, constSlot, upd_at, Nat.reduceEqDiff, if_true, if_false, List.getElem?_toArray, List.getElem?_cons_zero, List.getElem?_cons_succ, featPV]
     refine hM _ _ ?_
     clear hM M
     refine pops_to rfl fun M hM => ?_
     simp only [pop, St.eval, constSlot, upd_at, Nat.reduceEqDiff, if_true, if_false, List.getElem?_toArray, List.getElem?_cons_zero, List.getElem?_cons_succ, featPV]
     refine hM _ _ ?_
     clear hM M
     refine pops_mv (.inr rfl) rfl (by simp only [St.eval, upd_at, Nat.reduceEqDiff, if_true, if_false, featPV] <;> rfl) ?_
     refine pops_mv (.inr rfl) rfl (by simp only [St.eval, upd_at, Nat.reduceEqDiff, if_true, if_false, featPV] <;> rfl) ?_
     refine pops_done (hR22 _ ?_)
     clear hR22 R22
     try simp only [thenK, scopeK]
     refine hN21 _ ?_
     clear hN21 N21
     refine pwp_then fun N23 hN23 => ?_
     refine pwp_reg fun R24 hR24 => ?_
     refine pops_mv (.inl rfl) rfl (by simp only [St.eval, upd_at, Nat.reduceEqDiff, if_true, if_false, featPV] <;> rfl) ?_
     refine pops_mv (.inl rfl) rfl (by simp only [St.eval, upd_at, Nat.reduceEqDiff, if_true, if_false, featPV] <;> rfl) ?_
     refine pops_to rfl fun M hM => ?_
     simp only [pop, St.eval, constSlot, upd_at, Nat.reduceEqDiff, if_true, if_false, popBin, binK, intK, strK, eqK, Tryd.underlying31, isPtr, eq_self, true_and, and_true, featPV]
     refine hM _ _ ?_
     clear hM M
     refine pops_mv (.inl rfl) rfl (by simp only [St.eval, upd_at, Nat.reduceEqDiff, if_true, if_false, featPV] <;> rfl) ?_
     apply pops_and0 6 38 44 [39, 40, 41, 42, 43] (by simp only [upd_at, Nat.reduceEqDiff, if_true, if_false, featPV] <;> rfl)
     ·skip
      intro g38_0 J25 hJ25
      simp only [List.take_succ_cons, List.take_zero]
      simp only [anyAt_cons, anyAt_nil] at hJ25
      refine pops_mvg (.inl rfl) rfl rfl (by simp only [upd_at, Nat.reduceEqDiff, if_true, if_false, featPV, g38_0]) (by simp only [St.eval, upd_at, Nat.reduceEqDiff, if_true, if_false, featPV, g38_0] <;> rfl) ?_
      refine pops_do rfl rfl (by simp only [upd_at, Nat.reduceEqDiff, if_true, if_false, featPV, g38_0]) fun M hM => ?_
      simp only [pop, St.eval, constSlot, upd_at, Nat.reduceEqDiff, if_true, if_false, eq_self, true_and, and_true, featPV, g38_0]
      refine newP_neq Tryd.underlying45 (hM _ _ ?_)
      clear hM M
      refine pops_mvg (.inl rfl) rfl rfl (by simp only [upd_at, Nat.reduceEqDiff, if_true, if_false, featPV, g38_0]) (by simp only [St.eval, upd_at, Nat.reduceEqDiff, if_true, if_false, featPV, g38_0] <;> rfl) ?_
      refine pops_do rfl rfl (by simp only [upd_at, Nat.reduceEqDiff, if_true, if_false, featPV, g38_0]) fun M hM => ?_
      simp only [pop, St.eval, constSlot, upd_at, Nat.reduceEqDiff, if_true, if_false, popBin, binK, intK, strK, eqK, Tryd.underlying31, isPtr, eq_self, true_and, and_true, featPV, g38_0]
      refine hM _ _ ?_
      clear hM M
      refine pops_do rfl rfl (by simp only [upd_at, Nat.reduceEqDiff, if_true, if_false, featPV, g38_0]) fun M hM => ?_
      simp only [pop, St.eval, constSlot, upd_at, Nat.reduceEqDiff, if_true, if_false, popBin, binK, intK, strK, eqK, Tryd.underlying4, isPtr, eq_self, true_and, and_true, featPV, g38_0]
      refine hM _ _ ?_
      clear hM M
      refine pops_to rfl fun M hM => ?_
      simp only [pop, St.eval, constSlot, upd_at, Nat.reduceEqDiff, if_true, if_false, popIf, true_implies, false_implies, Bool.true_eq_false, Bool.false_eq_true, reduceCtorEq, true_and, and_true, featPV, g38_0]
      refine hM _ _ ?_
      clear hM M
      exact pops_done (hJ25 _ (wk_same (wk_any ((wk_any ((wk_any ((wk_any ((wk_any (Wk.refl _ _))))))))))))
     ·skip
      intro g38_0 J25 hJ25
      simp only [List.take_succ_cons, List.take_zero]
      simp only [anyAt_cons, anyAt_nil] at hJ25
      refine pops_off (b := false) rfl rfl (by simp only [upd_at, Nat.reduceEqDiff, if_true, if_false, featPV, g38_0]) (by decide) ?_
      refine pops_off (b := false) rfl rfl (by simp only [upd_at, Nat.reduceEqDiff, if_true, if_false, featPV, g38_0]) (by decide) ?_
      refine pops_off (b := false) rfl rfl (by simp only [upd_at, Nat.reduceEqDiff, if_true, if_false, featPV, g38_0]) (by decide) ?_
      refine pops_off (b := false) rfl rfl (by simp only [upd_at, Nat.reduceEqDiff, if_true, if_false, featPV, g38_0]) (by decide) ?_
      refine pops_off (b := false) rfl rfl (by simp only [upd_at, Nat.reduceEqDiff, if_true, if_false, featPV, g38_0]) (by decide) ?_
      refine pops_to rfl fun M hM => ?_
      simp only [pop, St.eval, constSlot, upd_at, Nat.reduceEqDiff, if_true, if_false, popIf, true_implies, false_implies, Bool.true_eq_false, Bool.false_eq_true, reduceCtorEq, true_and, and_true, featPV, g38_0]
      refine hM _ _ ?_
      clear hM M
      exact pops_done (hJ25 _ (wk_same (wk_any ((wk_any ((wk_any ((wk_any ((wk_any (Wk.refl _ _))))))))))))
     simp only [List.drop_succ_cons, List.drop_zero, anyAt_cons, anyAt_nil]
     refine pops_mv (.inr rfl) rfl (by simp only [St.eval, upd_at, Nat.reduceEqDiff, if_true, if_false, featPV] <;> rfl) ?_
     refine pops_done (hR24 _ ?_)
     clear hR24 R24
     try simp only [thenK, scopeK]
     refine hN23 _ ?_
     clear hN23 N23
     refine pwp_ret ?_
     simp only [thenK, blockK, scopeK, bodyK]
     refine ⟨_, rfl, endFun s9 ?_⟩
     try simp only [upd_at, Nat.reduceEqDiff, if_true, if_false, featPV]
     all_goals
      refine congrArg (fun b => Slot.sv (.one (pbool b))) ?_
      simp_all [newE, newN]
    ·skip
     refine pwp_skip ?_
     try simp only [thenK, scopeK]
     refine hN17 _ ?_
     clear hN17 N17
     refine pwp_then fun N26 hN26 => ?_
     refine pwp_reg fun R27 hR27 => ?_
     refine pops_to rfl fun M hM => ?_
     simp only [pop, St.eval, constSlot, upd_at, Nat.reduceEqDiff, if_true, if_false, List.length_cons, List.length_nil, Nat.zero_add, Nat.reduceAdd, Nat.reduceLeDiff, List.take_zero, List.take_succ_cons, List.take_nil, List.drop_succ_cons, List.drop_zero, List.drop_nil, List.nil_append, List.cons_append, List.append_nil, and_self, List.getElem?_cons_zero, List.getElem?_cons_succ, List.set_cons_zero, List.set_cons_succ, Option.some.injEq, popLoad, loadK, isAggD, List.drop_zero, List.getElem?_toArray, List.getElem?_cons_zero, List.getElem?_cons_succ, Bool.false_eq_true, Tryd.underlying39, sz39, eq_self, true_and, and_true, featPV]
     refine hM _ _ ?_
     clear hM M
     refine pops_mv (.inl rfl) rfl (by simp only [St.eval, upd_at, Nat.reduceEqDiff, if_true, if_false, featPV] <;> rfl) ?_
     refine pops_mv (.inl rfl) rfl (by simp only [St.eval, upd_at, Nat.reduceEqDiff, if_true, if_false, featPV] <;> rfl) ?_
     refine pops_to rfl fun M hM => ?_
     simp only [pop, St.eval, constSlot, upd_at, Nat.reduceEqDiff, if_true, if_false, popCall, List.toList_toArray, List.map_cons, List.map_nil, svs, List.mapM_cons, List.mapM_nil, Option.bind_eq_bind, Option.bind_some, Option.pure_def, List.append_nil, List.cons_append, List.nil_append, str_size, featPV]
     first
       | refine PFun.use (newClk_fun W0 x hf full l hn _) fun h9 s9 => hM _ _ ?_
       | refine PFun.use (newNil_fun W0 x hf full l hn) fun h9 s9 => hM _ _ ?_
     replace s9 := Same.trans s3 s9
     clear hM M
     refine pops_mv (.inl rfl) rfl (by simp only [St.eval, upd_at, Nat.reduceEqDiff, if_true, if_false, featPV] <;> rfl) ?_
     refine pops_to rfl fun M hM => ?_
     simp only [pop, St.eval, constSlot, upd_at, Nat.reduceEqDiff, if_true, if_false, List.getElem?_toArray, List.getElem?_cons_zero, List.getElem?_cons_succ, featPV]
     refine hM _ _ ?_
     clear hM M
     refine pops_to rfl fun M hM => ?_
     simp only [pop, St.eval, constSlot, upd_at, Nat.reduceEqDiff, if_true, if_false, List.getElem?_toArray, List.getElem?_cons_zero, List.getElem?_cons_succ, featPV]
     refine hM _ _ ?_
     clear hM M
     refine pops_mv (.inr rfl) rfl (by simp only [St.eval, upd_at, Nat.reduceEqDiff, if_true, if_false, featPV] <;> rfl) ?_
     refine pops_mv (.inr rfl) rfl (by simp only [St.eval, upd_at, Nat.reduceEqDiff, if_true, if_false, featPV] <;> rfl) ?_
     refine pops_done (hR27 _ ?_)
     clear hR27 R27
     try simp only [thenK, scopeK]
     refine hN26 _ ?_
     clear hN26 N26
     refine pwp_then fun N28 hN28 => ?_
     refine pwp_reg fun R29 hR29 => ?_
     refine pops_mv (.inl rfl) rfl (by simp only [St.eval, upd_at, Nat.reduceEqDiff, if_true, if_false, featPV] <;> rfl) ?_
     refine pops_mv (.inl rfl) rfl (by simp only [St.eval, upd_at, Nat.reduceEqDiff, if_true, if_false, featPV] <;> rfl) ?_
     refine pops_to rfl fun M hM => ?_
     simp only [pop, St.eval, constSlot, upd_at, Nat.reduceEqDiff, if_true, if_false, popBin, binK, intK, strK, eqK, Tryd.underlying31, isPtr, eq_self, true_and, and_true, featPV]
     refine hM _ _ ?_
     clear hM M
     refine pops_mv (.inl rfl) rfl (by simp only [St.eval, upd_at, Nat.reduceEqDiff, if_true, if_false, featPV] <;> rfl) ?_
     apply pops_and0 6 38 44 [39, 40, 41, 42, 43] (by simp only [upd_at, Nat.reduceEqDiff, if_true, if_false, featPV] <;> rfl)
     ·skip
      intro g38_0 J30 hJ30
      simp only [List.take_succ_cons, List.take_zero]
      simp only [anyAt_cons, anyAt_nil] at hJ30
      refine pops_mvg (.inl rfl) rfl rfl (by simp only [upd_at, Nat.reduceEqDiff, if_true, if_false, featPV, g38_0]) (by simp only [St.eval, upd_at, Nat.reduceEqDiff, if_true, if_false, featPV, g38_0] <;> rfl) ?_
      refine pops_do rfl rfl (by simp only [upd_at, Nat.reduceEqDiff, if_true, if_false, featPV, g38_0]) fun M hM => ?_
      simp only [pop, St.eval, constSlot, upd_at, Nat.reduceEqDiff, if_true, if_false, eq_self, true_and, and_true, featPV, g38_0]
      refine newP_neq Tryd.underlying45 (hM _ _ ?_)
      clear hM M
      refine pops_mvg (.inl rfl) rfl rfl (by simp only [upd_at, Nat.reduceEqDiff, if_true, if_false, featPV, g38_0]) (by simp only [St.eval, upd_at, Nat.reduceEqDiff, if_true, if_false, featPV, g38_0] <;> rfl) ?_
      refine pops_do rfl rfl (by simp only [upd_at, Nat.reduceEqDiff, if_true, if_false, featPV, g38_0]) fun M hM => ?_
      simp only [pop, St.eval, constSlot, upd_at, Nat.reduceEqDiff, if_true, if_false, popBin, binK, intK, strK, eqK, Tryd.underlying31, isPtr, eq_self, true_and, and_true, featPV, g38_0]
      refine hM _ _ ?_
      clear hM M
      refine pops_do rfl rfl (by simp only [upd_at, Nat.reduceEqDiff, if_true, if_false, featPV, g38_0]) fun M hM => ?_
      simp only [pop, St.eval, constSlot, upd_at, Nat.reduceEqDiff, if_true, if_false, popBin, binK, intK, strK, eqK, Tryd.underlying4, isPtr, eq_self, true_and, and_true, featPV, g38_0]
      refine hM _ _ ?_
      clear hM M
      refine pops_to rfl fun M hM => ?_
      simp only [pop, St.eval, constSlot, upd_at, Nat.reduceEqDiff, if_true, if_false, popIf, true_implies, false_implies, Bool.true_eq_false, Bool.false_eq_true, reduceCtorEq, true_and, and_true, featPV, g38_0]
      refine hM _ _ ?_
      clear hM M
      exact pops_done (hJ30 _ (wk_same (wk_any ((wk_any ((wk_any ((wk_any ((wk_any (Wk.refl _ _))))))))))))
     ·skip
      intro g38_0 J30 hJ30
      simp only [List.take_succ_cons, List.take_zero]
      simp only [anyAt_cons, anyAt_nil] at hJ30
      refine pops_off (b := false) rfl rfl (by simp only [upd_at, Nat.reduceEqDiff, if_true, if_false, featPV, g38_0]) (by decide) ?_
      refine pops_off (b := false) rfl rfl (by simp only [upd_at, Nat.reduceEqDiff, if_true, if_false, featPV, g38_0]) (by decide) ?_
      refine pops_off (b := false) rfl rfl (by simp only [upd_at, Nat.reduceEqDiff, if_true, if_false, featPV, g38_0]) (by decide) ?_
      refine pops_off (b := false) rfl rfl (by simp only [upd_at, Nat.reduceEqDiff, if_true, if_false, featPV, g38_0]) (by decide) ?_
      refine pops_off (b := false) rfl rfl (by simp only [upd_at, Nat.reduceEqDiff, if_true, if_false, featPV, g38_0]) (by decide) ?_
      refine pops_to rfl fun M hM => ?_
      simp only [pop, St.eval, constSlot, upd_at, Nat.reduceEqDiff, if_true, if_false, popIf, true_implies, false_implies, Bool.true_eq_false, Bool.false_eq_true, reduceCtorEq, true_and, and_true, featPV, g38_0]
      refine hM _ _ ?_
      clear hM M
      exact pops_done (hJ30 _ (wk_same (wk_any ((wk_any ((wk_any ((wk_any ((wk_any (Wk.refl _ _))))))))))))
     simp only [List.drop_succ_cons, List.drop_zero, anyAt_cons, anyAt_nil]
     refine pops_mv (.inr rfl) rfl (by simp only [St.eval, upd_at, Nat.reduceEqDiff, if_true, if_false, featPV] <;> rfl) ?_
     refine pops_done (hR29 _ ?_)
     clear hR29 R29
     try simp only [thenK, scopeK]
     refine hN28 _ ?_
     clear hN28 N28
     refine pwp_ret ?_
     simp only [thenK, blockK, scopeK, bodyK]
     refine ⟨_, rfl, endFun s9 ?_⟩
     try simp only [upd_at, Nat.reduceEqDiff, if_true, if_false, featPV]
     all_goals
      refine congrArg (fun b => Slot.sv (.one (pbool b))) ?_
      simp_all [newE, newN]
   ·skip
    refine pwp_then fun N31 hN31 => ?_
    refine pwp_reg fun R32 hR32 => ?_
    refine pops_mv (.inl rfl) rfl (by simp only [St.eval, upd_at, Nat.reduceEqDiff, if_true, if_false, featPV] <;> rfl) ?_
    refine pops_to rfl fun M hM => ?_
    simp only [pop, St.eval, constSlot, upd_at, Nat.reduceEqDiff, if_true, if_false, popBin, binK, intK, strK, eqK, Tryd.underlying31, isPtr, eq_self, true_and, and_true, featPV]
    refine hM _ _ ?_
    clear hM M
    refine pops_done (hR32 _ ?_)
    clear hR32 R32
    try simp only [thenK, scopeK]
    refine hN31 _ ?_
    clear hN31 N31
    refine pwp_cond (by simp only [St.eval, upd_at, Nat.reduceEqDiff, if_true, if_false, featPV] <;> rfl) (fun c23 => ?_) (fun c23 => ?_)
    ·skip
     refine pwp_reg fun R33 hR33 => ?_
     refine pops_mv (.inr rfl) rfl (by simp only [St.eval, constSlot] <;> rfl) ?_
     refine pops_done (hR33 _ ?_)
     clear hR33 R33
     try simp only [thenK, scopeK]
     refine hN13 _ ?_
     clear hN13 N13
     refine pwp_then fun N34 hN34 => ?_
     refine pwp_then fun N35 hN35 => ?_
     refine pwp_reg fun R36 hR36 => ?_
     refine pops_mv (.inl rfl) rfl (by simp only [St.eval, upd_at, Nat.reduceEqDiff, if_true, if_false, featPV] <;> rfl) ?_
     refine pops_to rfl fun M hM => ?_
     simp only [pop, St.eval, constSlot, upd_at, Nat.reduceEqDiff, if_true, if_false, popBin, binK, intK, strK, eqK, Tryd.underlying31, isPtr, eq_self, true_and, and_true, featPV]
     refine hM _ _ ?_
     clear hM M
     refine pops_done (hR36 _ ?_)
     clear hR36 R36
     try simp only [thenK, scopeK]
     refine hN35 _ ?_
     clear hN35 N35
     refine pwp_cond (by simp only [St.eval, upd_at, Nat.reduceEqDiff, if_true, if_false, featPV] <;> rfl) (fun c25 => ?_) (fun c25 => ?_)
     ·skip
      refine pwp_reg fun R37 hR37 => ?_
      refine pops_mv (.inl rfl) rfl (by simp only [St.eval, upd_at, Nat.reduceEqDiff, if_true, if_false, featPV] <;> rfl) ?_
      refine pops_to rfl fun M hM => ?_
      simp only [pop, St.eval, constSlot, upd_at, Nat.reduceEqDiff, if_true, if_false, popCall, List.toList_toArray, List.map_cons, List.map_nil, svs, List.mapM_cons, List.mapM_nil, Option.bind_eq_bind, Option.bind_some, Option.pure_def, List.append_nil, List.cons_append, List.nil_append, str_size, featPV]
      refine PFun.use (faultsRef_fun W0 full l hn) fun h5 s5 => hM _ _ ?_
      replace s5 := Same.trans s2 s5
      clear hM M
      refine pops_mv (.inr rfl) rfl (by simp only [St.eval, upd_at, Nat.reduceEqDiff, if_true, if_false, featPV] <;> rfl) ?_
      refine pops_done (hR37 _ ?_)
      clear hR37 R37
      try simp only [thenK, scopeK]
      refine hN34 _ ?_
      clear hN34 N34
      refine pwp_then fun N38 hN38 => ?_
      refine pwp_reg fun R39 hR39 => ?_
      refine pops_to rfl fun M hM => ?_
      simp only [pop, St.eval, constSlot, upd_at, Nat.reduceEqDiff, if_true, if_false, List.length_cons, List.length_nil, Nat.zero_add, Nat.reduceAdd, Nat.reduceLeDiff, List.take_zero, List.take_succ_cons, List.take_nil, List.drop_succ_cons, List.drop_zero, List.drop_nil, List.nil_append, List.cons_append, List.append_nil, and_self, List.getElem?_cons_zero, List.getElem?_cons_succ, List.set_cons_zero, List.set_cons_succ, Option.some.injEq, popLoad, loadK, isAggD, List.drop_zero, List.getElem?_toArray, List.getElem?_cons_zero, List.getElem?_cons_succ, Bool.false_eq_true, Tryd.underlying39, sz39, eq_self, true_and, and_true, featPV]
      refine hM _ _ ?_
      clear hM M
      refine pops_mv (.inl rfl) rfl (by simp only [St.eval, upd_at, Nat.reduceEqDiff, if_true, if_false, featPV] <;> rfl) ?_
      refine pops_mv (.inl rfl) rfl (by simp only [St.eval, upd_at, Nat.reduceEqDiff, if_true, if_false, featPV] <;> rfl) ?_
      refine pops_to rfl fun M hM => ?_
      simp only [pop, St.eval, constSlot, upd_at, Nat.reduceEqDiff, if_true, if_false, popCall, List.toList_toArray, List.map_cons, List.map_nil, svs, List.mapM_cons, List.mapM_nil, Option.bind_eq_bind, Option.bind_some, Option.pure_def, List.append_nil, List.cons_append, List.nil_append, str_size, featPV]
      first
        | refine PFun.use (newClk_fun W0 x hf full l hn _) fun h9 s9 => hM _ _ ?_
        | refine PFun.use (newNil_fun W0 x hf full l hn) fun h9 s9 => hM _ _ ?_
      replace s9 := Same.trans s5 s9
      clear hM M
      refine pops_mv (.inl rfl) rfl (by simp only [St.eval, upd_at, Nat.reduceEqDiff, if_true, if_false, featPV] <;> rfl) ?_
      refine pops_to rfl fun M hM => ?_
      simp only [pop, St.eval, constSlot, upd_at, Nat.reduceEqDiff, if_true, if_false, List.getElem?_toArray, List.getElem?_cons_zero, List.getElem?_cons_succ, featPV]
      refine hM _ _ ?_
      clear hM M
      refine pops_to rfl fun M hM => ?_
      simp only [pop, St.eval, constSlot, upd_at, Nat.reduceEqDiff, if_true, if_false, List.getElem?_toArray, List.getElem?_cons_zero, List.getElem?_cons_succ, featPV]
      refine hM _ _ ?_
      clear hM M
      refine pops_mv (.inr rfl) rfl (by simp only [St.eval, upd_at, Nat.reduceEqDiff, if_true, if_false, featPV] <;> rfl) ?_
      refine pops_mv (.inr rfl) rfl (by simp only [St.eval, upd_at, Nat.reduceEqDiff, if_true, if_false, featPV] <;> rfl) ?_
      refine pops_done (hR39 _ ?_)
      clear hR39 R39
      try simp only [thenK, scopeK]
      refine hN38 _ ?_
      clear hN38 N38
      refine pwp_then fun N40 hN40 => ?_
      refine pwp_reg fun R41 hR41 => ?_
      refine pops_mv (.inl rfl) rfl (by simp only [St.eval, upd_at, Nat.reduceEqDiff, if_true, if_false, featPV] <;> rfl) ?_
      refine pops_mv (.inl rfl) rfl (by simp only [St.eval, upd_at, Nat.reduceEqDiff, if_true, if_false, featPV] <;> rfl) ?_
      refine pops_to rfl fun M hM => ?_
      simp only [pop, St.eval, constSlot, upd_at, Nat.reduceEqDiff, if_true, if_false, popBin, binK, intK, strK, eqK, Tryd.underlying31, isPtr, eq_self, true_and, and_true, featPV]
      refine hM _ _ ?_
      clear hM M
      refine pops_mv (.inl rfl) rfl (by simp only [St.eval, upd_at, Nat.reduceEqDiff, if_true, if_false, featPV] <;> rfl) ?_
      apply pops_and0 6 38 44 [39, 40, 41, 42, 43] (by simp only [upd_at, Nat.reduceEqDiff, if_true, if_false, featPV] <;> rfl)
      ·skip
       intro g38_0 J42 hJ42
       simp only [List.take_succ_cons, List.take_zero]
       simp only [anyAt_cons, anyAt_nil] at hJ42
       refine pops_mvg (.inl rfl) rfl rfl (by simp only [upd_at, Nat.reduceEqDiff, if_true, if_false, featPV, g38_0]) (by simp only [St.eval, upd_at, Nat.reduceEqDiff, if_true, if_false, featPV, g38_0] <;> rfl) ?_
       refine pops_do rfl rfl (by simp only [upd_at, Nat.reduceEqDiff, if_true, if_false, featPV, g38_0]) fun M hM => ?_
       simp only [pop, St.eval, constSlot, upd_at, Nat.reduceEqDiff, if_true, if_false, eq_self, true_and, and_true, featPV, g38_0]
       refine newP_neq Tryd.underlying45 (hM _ _ ?_)
       clear hM M
       refine pops_mvg (.inl rfl) rfl rfl (by simp only [upd_at, Nat.reduceEqDiff, if_true, if_false, featPV, g38_0]) (by simp only [St.eval, upd_at, Nat.reduceEqDiff, if_true, if_false, featPV, g38_0] <;> rfl) ?_
       refine pops_do rfl rfl (by simp only [upd_at, Nat.reduceEqDiff, if_true, if_false, featPV, g38_0]) fun M hM => ?_
       simp only [pop, St.eval, constSlot, upd_at, Nat.reduceEqDiff, if_true, if_false, popBin, binK, intK, strK, eqK, Tryd.underlying31, isPtr, eq_self, true_and, and_true, featPV, g38_0]
       refine hM _ _ ?_
       clear hM M
       refine pops_do rfl rfl (by simp only [upd_at, Nat.reduceEqDiff, if_true, if_false, featPV, g38_0]) fun M hM => ?_
       simp only [pop, St.eval, constSlot, upd_at, Nat.reduceEqDiff, if_true, if_false, popBin, binK, intK, strK, eqK, Tryd.underlying4, isPtr, eq_self, true_and, and_true, featPV, g38_0]
       refine hM _ _ ?_
       clear hM M
       refine pops_to rfl fun M hM => ?_
       simp only [pop, St.eval, constSlot, upd_at, Nat.reduceEqDiff, if_true, if_false, popIf, true_implies, false_implies, Bool.true_eq_false, Bool.false_eq_true, reduceCtorEq, true_and, and_true, featPV, g38_0]
       refine hM _ _ ?_
       clear hM M
       exact pops_done (hJ42 _ (wk_same (wk_any ((wk_any ((wk_any ((wk_any ((wk_any (Wk.refl _ _))))))))))))
      ·skip
       intro g38_0 J42 hJ42
       simp only [List.take_succ_cons, List.take_zero]
       simp only [anyAt_cons, anyAt_nil] at hJ42
       refine pops_off (b := false) rfl rfl (by simp only [upd_at, Nat.reduceEqDiff, if_true, if_false, featPV, g38_0]) (by decide) ?_
       refine pops_off (b := false) rfl rfl (by simp only [upd_at, Nat.reduceEqDiff, if_true, if_false, featPV, g38_0]) (by decide) ?_
       refine pops_off (b := false) rfl rfl (by simp only [upd_at, Nat.reduceEqDiff, if_true, if_false, featPV, g38_0]) (by decide) ?_
       refine pops_off (b := false) rfl rfl (by simp only [upd_at, Nat.reduceEqDiff, if_true, if_false, featPV, g38_0]) (by decide) ?_
       refine pops_off (b := false) rfl rfl (by simp only [upd_at, Nat.reduceEqDiff, if_true, if_false, featPV, g38_0]) (by decide) ?_
       refine pops_to rfl fun M hM => ?_
       simp only [pop, St.eval, constSlot, upd_at, Nat.reduceEqDiff, if_true, if_false, popIf, true_implies, false_implies, Bool.true_eq_false, Bool.false_eq_true, reduceCtorEq, true_and, and_true, featPV, g38_0]
       refine hM _ _ ?_
       clear hM M
       exact pops_done (hJ42 _ (wk_same (wk_any ((wk_any ((wk_any ((wk_any ((wk_any (Wk.refl _ _))))))))))))
      simp only [List.drop_succ_cons, List.drop_zero, anyAt_cons, anyAt_nil]
      refine pops_mv (.inr rfl) rfl (by simp only [St.eval, upd_at, Nat.reduceEqDiff, if_true, if_false, featPV] <;> rfl) ?_
      refine pops_done (hR41 _ ?_)
      clear hR41 R41
      try simp only [thenK, scopeK]
      refine hN40 _ ?_
      clear hN40 N40
      refine pwp_ret ?_
      simp only [thenK, blockK, scopeK, bodyK]
      refine ⟨_, rfl, endFun s9 ?_⟩
      try simp only [upd_at, Nat.reduceEqDiff, if_true, if_false, featPV]
      all_goals
       refine congrArg (fun b => Slot.sv (.one (pbool b))) ?_
       simp_all [newE, newN]
     ·skip
      refine pwp_skip ?_
      try simp only [thenK, scopeK]
      refine hN34 _ ?_
      clear hN34 N34
      refine pwp_then fun N43 hN43 => ?_
      refine pwp_reg fun R44 hR44 => ?_
      refine pops_to rfl fun M hM => ?_
      simp only [pop, St.eval, constSlot, upd_at, Nat.reduceEqDiff, if_true, if_false, List.length_cons, List.length_nil, Nat.zero_add, Nat.reduceAdd, Nat.reduceLeDiff, List.take_zero, List.take_succ_cons, List.take_nil, List.drop_succ_cons, List.drop_zero, List.drop_nil, List.nil_append, List.cons_append, List.append_nil, and_self, List.getElem?_cons_zero, List.getElem?_cons_succ, List.set_cons_zero, List.set_cons_succ, Option.some.injEq, popLoad, loadK, isAggD, List.drop_zero, List.getElem?_toArray, List.getElem?_cons_zero, List.getElem?_cons_succ, Bool.false_eq_true, Tryd.underlying39, sz39, eq_self, true_and, and_true, featPV]
      refine hM _ _ ?_
      clear hM M
      refine pops_mv (.inl rfl) rfl (by simp only [St.eval, upd_at, Nat.reduceEqDiff, if_true, if_false, featPV] <;> rfl) ?_
      refine pops_mv (.inl rfl) rfl (by simp only [St.eval, upd_at, Nat.reduceEqDiff, if_true, if_false, featPV] <;> rfl) ?_
      refine pops_to rfl fun M hM => ?_
      simp only [pop, St.eval, constSlot, upd_at, Nat.reduceEqDiff, if_true, if_false, popCall, List.toList_toArray, List.map_cons, List.map_nil, svs, List.mapM_cons, List.mapM_nil, Option.bind_eq_bind, Option.bind_some, Option.pure_def, List.append_nil, List.cons_append, List.nil_append, str_size, featPV]
      first
        | refine PFun.use (newClk_fun W0 x hf full l hn _) fun h9 s9 => hM _ _ ?_
        | refine PFun.use (newNil_fun W0 x hf full l hn) fun h9 s9 => hM _ _ ?_
      replace s9 := Same.trans s2 s9
      clear hM M
      refine pops_mv (.inl rfl) rfl (by simp only [St.eval, upd_at, Nat.reduceEqDiff, if_true, if_false, featPV] <;> rfl) ?_
      refine pops_to rfl fun M hM => ?_
      simp only [pop, St.eval, constSlot, upd_at, Nat.reduceEqDiff, if_true, if_false, List.getElem?_toArray, List.getElem?_cons_zero, List.getElem?_cons_succ, featPV]
      refine hM _ _ ?_
      clear hM M
      refine pops_to rfl fun M hM => ?_
      simp only [pop, St.eval, constSlot, upd_at, Nat.reduceEqDiff, if_true, if_false, List.getElem?_toArray, List.getElem?_cons_zero, List.getElem?_cons_succ, featPV]
      refine hM _ _ ?_
      clear hM M
      refine pops_mv (.inr rfl) rfl (by simp only [St.eval, upd_at, Nat.reduceEqDiff, if_true, if_false, featPV] <;> rfl) ?_
      refine pops_mv (.inr rfl) rfl (by simp only [St.eval, upd_at, Nat.reduceEqDiff, if_true, if_false, featPV] <;> rfl) ?_
      refine pops_done (hR44 _ ?_)
      clear hR44 R44
      try simp only [thenK, scopeK]
      refine hN43 _ ?_
      clear hN43 N43
      refine pwp_then fun N45 hN45 => ?_
      refine pwp_reg fun R46 hR46 => ?_
      refine pops_mv (.inl rfl) rfl (by simp only [St.eval, upd_at, Nat.reduceEqDiff, if_true, if_false, featPV] <;> rfl) ?_
      refine pops_mv (.inl rfl) rfl (by simp only [St.eval, upd_at, Nat.reduceEqDiff, if_true, if_false, featPV] <;> rfl) ?_
      refine pops_to rfl fun M hM => ?_
      simp only [pop, St.eval, constSlot, upd_at, Nat.reduceEqDiff, if_true, if_false, popBin, binK, intK, strK, eqK, Tryd.underlying31, isPtr, eq_self, true_and, and_true, featPV]
      refine hM _ _ ?_
      clear hM M
      refine pops_mv (.inl rfl) rfl (by simp only [St.eval, upd_at, Nat.reduceEqDiff, if_true, if_false, featPV] <;> rfl) ?_
      apply pops_and0 6 38 44 [39, 40, 41, 42, 43] (by simp only [upd_at, Nat.reduceEqDiff, if_true, if_false, featPV] <;> rfl)
      ·skip
       intro g38_0 J47 hJ47
       simp only [List.take_succ_cons, List.take_zero]
       simp only [anyAt_cons, anyAt_nil] at hJ47
       refine pops_mvg (.inl rfl) rfl rfl (by simp only [upd_at, Nat.reduceEqDiff, if_true, if_false, featPV, g38_0]) (by simp only [St.eval, upd_at, Nat.reduceEqDiff, if_true, if_false, featPV, g38_0] <;> rfl) ?_
       refine pops_do rfl rfl (by simp only [upd_at, Nat.reduceEqDiff, if_true, if_false, featPV, g38_0]) fun M hM => ?_
       simp only [pop, St.eval, constSlot, upd_at, Nat.reduceEqDiff, if_true, if_false, eq_self, true_and, and_true, featPV, g38_0]
       refine newP_neq Tryd.underlying45 (hM _ _ ?_)
       clear hM M
       refine pops_mvg (.inl rfl) rfl rfl (by simp only [upd_at, Nat.reduceEqDiff, if_true, if_false, featPV, g38_0]) (by simp only [St.eval, upd_at, Nat.reduceEqDiff, if_true, if_false, featPV, g38_0] <;> rfl) ?_
       refine pops_do rfl rfl (by simp only [upd_at, Nat.reduceEqDiff, if_true, if_false, featPV, g38_0]) fun M hM => ?_
       simp only [pop, St.eval, constSlot, upd_at, Nat.reduceEqDiff, if_true, if_false, popBin, binK, intK, strK, eqK, Tryd.underlying31, isPtr, eq_self, true_and, and_true, featPV, g38_0]
       refine hM _ _ ?_
       clear hM M
       refine pops_do rfl rfl (by simp only [upd_at, Nat.reduceEqDiff, if_true, if_false, featPV, g38_0]) fun M hM => ?_
       simp only [pop, St.eval, constSlot, upd_at, Nat.reduceEqDiff, if_true, if_false, popBin, binK, intK, strK, eqK, Tryd.underlying4, isPtr, eq_self, true_and, and_true, featPV, g38_0]
       refine hM _ _ ?_
       clear hM M
       refine pops_to rfl fun M hM => ?_
       simp only [pop, St.eval, constSlot, upd_at, Nat.reduceEqDiff, if_true, if_false, popIf, true_implies, false_implies, Bool.true_eq_false, Bool.false_eq_true, reduceCtorEq, true_and, and_true, featPV, g38_0]
       refine hM _ _ ?_
       clear hM M
       exact pops_done (hJ47 _ (wk_same (wk_any ((wk_any ((wk_any ((wk_any ((wk_any (Wk.refl _ _))))))))))))
      ·skip
       intro g38_0 J47 hJ47
       simp only [List.take_succ_cons, List.take_zero]
       simp only [anyAt_cons, anyAt_nil] at hJ47
       refine pops_off (b := false) rfl rfl (by simp only [upd_at, Nat.reduceEqDiff, if_true, if_false, featPV, g38_0]) (by decide) ?_
       refine pops_off (b := false) rfl rfl (by simp only [upd_at, Nat.reduceEqDiff, if_true, if_false, featPV, g38_0]) (by decide) ?_
       refine pops_off (b := false) rfl rfl (by simp only [upd_at, Nat.reduceEqDiff, if_true, if_false, featPV, g38_0]) (by decide) ?_
       refine pops_off (b := false) rfl rfl (by simp only [upd_at, Nat.reduceEqDiff, if_true, if_false, featPV, g38_0]) (by decide) ?_
       refine pops_off (b := false) rfl rfl (by simp only [upd_at, Nat.reduceEqDiff, if_true, if_false, featPV, g38_0]) (by decide) ?_
       refine pops_to rfl fun M hM => ?_
       simp only [pop, St.eval, constSlot, upd_at, Nat.reduceEqDiff, if_true, if_false, popIf, true_implies, false_implies, Bool.true_eq_false, Bool.false_eq_true, reduceCtorEq, true_and, and_true, featPV, g38_0]
       refine hM _ _ ?_
       clear hM M
       exact pops_done (hJ47 _ (wk_same (wk_any ((wk_any ((wk_any ((wk_any ((wk_any (Wk.refl _ _))))))))))))
      simp only [List.drop_succ_cons, List.drop_zero, anyAt_cons, anyAt_nil]
      refine pops_mv (.inr rfl) rfl (by simp only [St.eval, upd_at, Nat.reduceEqDiff, if_true, if_false, featPV] <;> rfl) ?_
      refine pops_done (hR46 _ ?_)
      clear hR46 R46
      try simp only [thenK, scopeK]
      refine hN45 _ ?_
      clear hN45 N45
      refine pwp_ret ?_
      simp only [thenK, blockK, scopeK, bodyK]
      refine ⟨_, rfl, endFun s9 ?_⟩
      try simp only [upd_at, Nat.reduceEqDiff, if_true, if_false, featPV]
      all_goals
       refine congrArg (fun b => Slot.sv (.one (pbool b))) ?_
       simp_all [newE, newN]
    ·skip
     refine pwp_skip ?_
     try simp only [thenK, scopeK]
     refine hN13 _ ?_
     clear hN13 N13
     refine pwp_then fun N48 hN48 => ?_
     refine pwp_then fun N49 hN49 => ?_
     refine pwp_reg fun R50 hR50 => ?_
     refine pops_mv (.inl rfl) rfl (by simp only [St.eval, upd_at, Nat.reduceEqDiff, if_true, if_false, featPV] <;> rfl) ?_
     refine pops_to rfl fun M hM => ?_
     simp only [pop, St.eval, constSlot, upd_at, Nat.reduceEqDiff, if_true, if_false, popBin, binK, intK, strK, eqK, Tryd.underlying31, isPtr, eq_self, true_and, and_true, featPV]
     refine hM _ _ ?_
     clear hM M
     refine pops_done (hR50 _ ?_)
     clear hR50 R50
     try simp only [thenK, scopeK]
     refine hN49 _ ?_
     clear hN49 N49
     refine pwp_cond (by simp only [St.eval, upd_at, Nat.reduceEqDiff, if_true, if_false, featPV] <;> rfl) (fun c25 => ?_) (fun c25 => ?_)
     ·skip
      refine pwp_reg fun R51 hR51 => ?_
      refine pops_mv (.inl rfl) rfl (by simp only [St.eval, upd_at, Nat.reduceEqDiff, if_true, if_false, featPV] <;> rfl) ?_
      refine pops_to rfl fun M hM => ?_
      simp only [pop, St.eval, constSlot, upd_at, Nat.reduceEqDiff, if_true, if_false, popCall, List.toList_toArray, List.map_cons, List.map_nil, svs, List.mapM_cons, List.mapM_nil, Option.bind_eq_bind, Option.bind_some, Option.pure_def, List.append_nil, List.cons_append, List.nil_append, str_size, featPV]
      refine PFun.use (faultsRef_fun W0 full l hn) fun h6 s6 => hM _ _ ?_
      replace s6 := Same.trans s2 s6
      clear hM M
      refine pops_mv (.inr rfl) rfl (by simp only [St.eval, upd_at, Nat.reduceEqDiff, if_true, if_false, featPV] <;> rfl) ?_
      refine pops_done (hR51 _ ?_)
      clear hR51 R51
      try simp only [thenK, scopeK]
      refine hN48 _ ?_
      clear hN48 N48
      refine pwp_then fun N52 hN52 => ?_
      refine pwp_reg fun R53 hR53 => ?_
      refine pops_to rfl fun M hM => ?_
      simp only [pop, St.eval, constSlot, upd_at, Nat.reduceEqDiff, if_true, if_false, List.length_cons, List.length_nil, Nat.zero_add, Nat.reduceAdd, Nat.reduceLeDiff, List.take_zero, List.take_succ_cons, List.take_nil, List.drop_succ_cons, List.drop_zero, List.drop_nil, List.nil_append, List.cons_append, List.append_nil, and_self, List.getElem?_cons_zero, List.getElem?_cons_succ, List.set_cons_zero, List.set_cons_succ, Option.some.injEq, popLoad, loadK, isAggD, List.drop_zero, List.getElem?_toArray, List.getElem?_cons_zero, List.getElem?_cons_succ, Bool.false_eq_true, Tryd.underlying39, sz39, eq_self, true_and, and_true, featPV]
      refine hM _ _ ?_
      clear hM M
      refine pops_mv (.inl rfl) rfl (by simp only [St.eval, upd_at, Nat.reduceEqDiff, if_true, if_false, featPV] <;> rfl) ?_
      refine pops_mv (.inl rfl) rfl (by simp only [St.eval, upd_at, Nat.reduceEqDiff, if_true, if_false, featPV] <;> rfl) ?_
      refine pops_to rfl fun M hM => ?_
      simp only [pop, St.eval, constSlot, upd_at, Nat.reduceEqDiff, if_true, if_false, popCall, List.toList_toArray, List.map_cons, List.map_nil, svs, List.mapM_cons, List.mapM_nil, Option.bind_eq_bind, Option.bind_some, Option.pure_def, List.append_nil, List.cons_append, List.nil_append, str_size, featPV]
      first
        | refine PFun.use (newClk_fun W0 x hf full l hn _) fun h9 s9 => hM _ _ ?_
        | refine PFun.use (newNil_fun W0 x hf full l hn) fun h9 s9 => hM _ _ ?_
      replace s9 := Same.trans s6 s9
      clear hM M
      refine pops_mv (.inl rfl) rfl (by simp only [St.eval, upd_at, Nat.reduceEqDiff, if_true, if_false, featPV] <;> rfl) ?_
      refine pops_to rfl fun M hM => ?_
      simp only [pop, St.eval, constSlot, upd_at, Nat.reduceEqDiff, if_true, if_false, List.getElem?_toArray, List.getElem?_cons_zero, List.getElem?_cons_succ, featPV]
      refine hM _ _ ?_
      clear hM M
      refine pops_to rfl fun M hM => ?_
      simp only [pop, St.eval, constSlot, upd_at, Nat.reduceEqDiff, if_true, if_false, List.getElem?_toArray, List.getElem?_cons_zero, List.getElem?_cons_succ, featPV]
      refine hM _ _ ?_
      clear hM M
      refine pops_mv (.inr rfl) rfl (by simp only [St.eval, upd_at, Nat.reduceEqDiff, if_true, if_false, featPV] <;> rfl) ?_
      refine pops_mv (.inr rfl) rfl (by simp only [St.eval, upd_at, Nat.reduceEqDiff, if_true, if_false, featPV] <;> rfl) ?_
      refine pops_done (hR53 _ ?_)
      clear hR53 R53
      try simp only [thenK, scopeK]
      refine hN52 _ ?_
      clear hN52 N52
      refine pwp_then fun N54 hN54 => ?_
      refine pwp_reg fun R55 hR55 => ?_
      refine pops_mv (.inl rfl) rfl (by simp only [St.eval, upd_at, Nat.reduceEqDiff, if_true, if_false, featPV] <;> rfl) ?_
      refine pops_mv (.inl rfl) rfl (by simp only [St.eval, upd_at, Nat.reduceEqDiff, if_true, if_false, featPV] <;> rfl) ?_
      refine pops_to rfl fun M hM => ?_
      simp only [pop, St.eval, constSlot, upd_at, Nat.reduceEqDiff, if_true, if_false, popBin, binK, intK, strK, eqK, Tryd.underlying31, isPtr, eq_self, true_and, and_true, featPV]
      refine hM _ _ ?_
      clear hM M
      refine pops_mv (.inl rfl) rfl (by simp only [St.eval, upd_at, Nat.reduceEqDiff, if_true, if_false, featPV] <;> rfl) ?_
      apply pops_and0 6 38 44 [39, 40, 41, 42, 43] (by simp only [upd_at, Nat.reduceEqDiff, if_true, if_false, featPV] <;> rfl)
      ·skip
       intro g38_0 J56 hJ56
       simp only [List.take_succ_cons, List.take_zero]
       simp only [anyAt_cons, anyAt_nil] at hJ56
       refine pops_mvg (.inl rfl) rfl rfl (by simp only [upd_at, Nat.reduceEqDiff, if_true, if_false, featPV, g38_0]) (by simp only [St.eval, upd_at, Nat.reduceEqDiff, if_true, if_false, featPV, g38_0] <;> rfl) ?_
       refine pops_do rfl rfl (by simp only [upd_at, Nat.reduceEqDiff, if_true, if_false, featPV, g38_0]) fun M hM => ?_
       simp only [pop, St.eval, constSlot, upd_at, Nat.reduceEqDiff, if_true, if_false, eq_self, true_and, and_true, featPV, g38_0]
       refine newP_neq Tryd.underlying45 (hM _ _ ?_)
       clear hM M
       refine pops_mvg (.inl rfl) rfl rfl (by simp only [upd_at, Nat.reduceEqDiff, if_true, if_false, featPV, g38_0]) (by simp only [St.eval, upd_at, Nat.reduceEqDiff, if_true, if_false, featPV, g38_0] <;> rfl) ?_
       refine pops_do rfl rfl (by simp only [upd_at, Nat.reduceEqDiff, if_true, if_false, featPV, g38_0]) fun M hM => ?_
       simp only [pop, St.eval, constSlot, upd_at, Nat.reduceEqDiff, if_true, if_false, popBin, binK, intK, strK, eqK, Tryd.underlying31, isPtr, eq_self, true_and, and_true, featPV, g38_0]
       refine hM _ _ ?_
       clear hM M
       refine pops_do rfl rfl (by simp only [upd_at, Nat.reduceEqDiff, if_true, if_false, featPV, g38_0]) fun M hM => ?_
       simp only [pop, St.eval, constSlot, upd_at, Nat.reduceEqDiff, if_true, if_false, popBin, binK, intK, strK, eqK, Tryd.underlying4, isPtr, eq_self, true_and, and_true, featPV, g38_0]
       refine hM _ _ ?_
       clear hM M
       refine pops_to rfl fun M hM => ?_
       simp only [pop, St.eval, constSlot, upd_at, Nat.reduceEqDiff, if_true, if_false, popIf, true_implies, false_implies, Bool.true_eq_false, Bool.false_eq_true, reduceCtorEq, true_and, and_true, featPV, g38_0]
       refine hM _ _ ?_
       clear hM M
       exact pops_done (hJ56 _ (wk_same (wk_any ((wk_any ((wk_any ((wk_any ((wk_any (Wk.refl _ _))))))))))))
      ·skip
       intro g38_0 J56 hJ56
       simp only [List.take_succ_cons, List.take_zero]
       simp only [anyAt_cons, anyAt_nil] at hJ56
       refine pops_off (b := false) rfl rfl (by simp only [upd_at, Nat.reduceEqDiff, if_true, if_false, featPV, g38_0]) (by decide) ?_
       refine pops_off (b := false) rfl rfl (by simp only [upd_at, Nat.reduceEqDiff, if_true, if_false, featPV, g38_0]) (by decide) ?_
       refine pops_off (b := false) rfl rfl (by simp only [upd_at, Nat.reduceEqDiff, if_true, if_false, featPV, g38_0]) (by decide) ?_
       refine pops_off (b := false) rfl rfl (by simp only [upd_at, Nat.reduceEqDiff, if_true, if_false, featPV, g38_0]) (by decide) ?_
       refine pops_off (b := false) rfl rfl (by simp only [upd_at, Nat.reduceEqDiff, if_true, if_false, featPV, g38_0]) (by decide) ?_
       refine pops_to rfl fun M hM => ?_
       simp only [pop, St.eval, constSlot, upd_at, Nat.reduceEqDiff, if_true, if_false, popIf, true_implies, false_implies, Bool.true_eq_false, Bool.false_eq_true, reduceCtorEq, true_and, and_true, featPV, g38_0]
       refine hM _ _ ?_
       clear hM M
       exact pops_done (hJ56 _ (wk_same (wk_any ((wk_any ((wk_any ((wk_any ((wk_any (Wk.refl _ _))))))))))))
      simp only [List.drop_succ_cons, List.drop_zero, anyAt_cons, anyAt_nil]
      refine pops_mv (.inr rfl) rfl (by simp only [St.eval, upd_at, Nat.reduceEqDiff, if_true, if_false, featPV] <;> rfl) ?_
      refine pops_done (hR55 _ ?_)
      clear hR55 R55
      try simp only [thenK, scopeK]
      refine hN54 _ ?_
      clear hN54 N54
      refine pwp_ret ?_
      simp only [thenK, blockK, scopeK, bodyK]
      refine ⟨_, rfl, endFun s9 ?_⟩
      try simp only [upd_at, Nat.reduceEqDiff, if_true, if_false, featPV]
      all_goals
       refine congrArg (fun b => Slot.sv (.one (pbool b))) ?_
       simp_all [newE, newN]
     ·skip
      refine pwp_skip ?_
      try simp only [thenK, scopeK]
      refine hN48 _ ?_
      clear hN48 N48
      refine pwp_then fun N57 hN57 => ?_
      refine pwp_reg fun R58 hR58 => ?_
      refine pops_to rfl fun M hM => ?_
      simp only [pop, St.eval, constSlot, upd_at, Nat.reduceEqDiff, if_true, if_false, List.length_cons, List.length_nil, Nat.zero_add, Nat.reduceAdd, Nat.reduceLeDiff, List.take_zero, List.take_succ_cons, List.take_nil, List.drop_succ_cons, List.drop_zero, List.drop_nil, List.nil_append, List.cons_append, List.append_nil, and_self, List.getElem?_cons_zero, List.getElem?_cons_succ, List.set_cons_zero, List.set_cons_succ, Option.some.injEq, popLoad, loadK, isAggD, List.drop_zero, List.getElem?_toArray, List.getElem?_cons_zero, List.getElem?_cons_succ, Bool.false_eq_true, Tryd.underlying39, sz39, eq_self, true_and, and_true, featPV]
      refine hM _ _ ?_
      clear hM M
      refine pops_mv (.inl rfl) rfl (by simp only [St.eval, upd_at, Nat.reduceEqDiff, if_true, if_false, featPV] <;> rfl) ?_
      refine pops_mv (.inl rfl) rfl (by simp only [St.eval, upd_at, Nat.reduceEqDiff, if_true, if_false, featPV] <;> rfl) ?_
      refine pops_to rfl fun M hM => ?_
      simp only [pop, St.eval, constSlot, upd_at, Nat.reduceEqDiff, if_true, if_false, popCall, List.toList_toArray, List.map_cons, List.map_nil, svs, List.mapM_cons, List.mapM_nil, Option.bind_eq_bind, Option.bind_some, Option.pure_def, List.append_nil, List.cons_append, List.nil_append, str_size, featPV]
      first
        | refine PFun.use (newClk_fun W0 x hf full l hn _) fun h9 s9 => hM _ _ ?_
        | refine PFun.use (newNil_fun W0 x hf full l hn) fun h9 s9 => hM _ _ ?_
      replace s9 := Same.trans s2 s9
      clear hM M
      refine pops_mv (.inl rfl) rfl (by simp only [St.eval, upd_at, Nat.reduceEqDiff, if_true, if_false, featPV] <;> rfl) ?_
      refine pops_to rfl fun M hM => ?_
      simp only [pop, St.eval, constSlot, upd_at, Nat.reduceEqDiff, if_true, if_false, List.getElem?_toArray, List.getElem?_cons_zero, List.getElem?_cons_succ, featPV]
      refine hM _ _ ?_
      clear hM M
      refine pops_to rfl fun M hM => ?_
      simp only [pop, St.eval, constSlot, upd_at, Nat.reduceEqDiff, if_true, if_false, List.getElem?_toArray, List.getElem?_cons_zero, List.getElem?_cons_succ, featPV]
      refine hM _ _ ?_
      clear hM M
      refine pops_mv (.inr rfl) rfl (by simp only [St.eval, upd_at, Nat.reduceEqDiff, if_true, if_false, featPV] <;> rfl) ?_
      refine pops_mv (.inr rfl) rfl (by simp only [St.eval, upd_at, Nat.reduceEqDiff, if_true, if_false, featPV] <;> rfl) ?_
      refine pops_done (hR58 _ ?_)
      clear hR58 R58
      try simp only [thenK, scopeK]
      refine hN57 _ ?_
      clear hN57 N57
      refine pwp_then fun N59 hN59 => ?_
      refine pwp_reg fun R60 hR60 => ?_
      refine pops_mv (.inl rfl) rfl (by simp only [St.eval, upd_at, Nat.reduceEqDiff, if_true, if_false, featPV] <;> rfl) ?_
      refine pops_mv (.inl rfl) rfl (by simp only [St.eval, upd_at, Nat.reduceEqDiff, if_true, if_false, featPV] <;> rfl) ?_
      refine pops_to rfl fun M hM => ?_
      simp only [pop, St.eval, constSlot, upd_at, Nat.reduceEqDiff, if_true, if_false, popBin, binK, intK, strK, eqK, Tryd.underlying31, isPtr, eq_self, true_and, and_true, featPV]
      refine hM _ _ ?_
      clear hM M
      refine pops_mv (.inl rfl) rfl (by simp only [St.eval, upd_at, Nat.reduceEqDiff, if_true, if_false, featPV] <;> rfl) ?_
      apply pops_and0 6 38 44 [39, 40, 41, 42, 43] (by simp only [upd_at, Nat.reduceEqDiff, if_true, if_false, featPV] <;> rfl)
      ·skip
       intro g38_0 J61 hJ61
       simp only [List.take_succ_cons, List.take_zero]
       simp only [anyAt_cons, anyAt_nil] at hJ61
       refine pops_mvg (.inl rfl) rfl rfl (by simp only [upd_at, Nat.reduceEqDiff, if_true, if_false, featPV, g38_0]) (by simp only [St.eval, upd_at, Nat.reduceEqDiff, if_true, if_false, featPV, g38_0] <;> rfl) ?_
       refine pops_do rfl rfl (by simp only [upd_at, Nat.reduceEqDiff, if_true, if_false, featPV, g38_0]) fun M hM => ?_
       simp only [pop, St.eval, constSlot, upd_at, Nat.reduceEqDiff, if_true, if_false, eq_self, true_and, and_true, featPV, g38_0]
       refine newP_neq Tryd.underlying45 (hM _ _ ?_)
       clear hM M
       refine pops_mvg (.inl rfl) rfl rfl (by simp only [upd_at, Nat.reduceEqDiff, if_true, if_false, featPV, g38_0]) (by simp only [St.eval, upd_at, Nat.reduceEqDiff, if_true, if_false, featPV, g38_0] <;> rfl) ?_
       refine pops_do rfl rfl (by simp only [upd_at, Nat.reduceEqDiff, if_true, if_false, featPV, g38_0]) fun M hM => ?_
       simp only [pop, St.eval, constSlot, upd_at, Nat.reduceEqDiff, if_true, if_false, popBin, binK, intK, strK, eqK, Tryd.underlying31, isPtr, eq_self, true_and, and_true, featPV, g38_0]
       refine hM _ _ ?_
       clear hM M
       refine pops_do rfl rfl (by simp only [upd_at, Nat.reduceEqDiff, if_true, if_false, featPV, g38_0]) fun M hM => ?_
       simp only [pop, St.eval, constSlot, upd_at, Nat.reduceEqDiff, if_true, if_false, popBin, binK, intK, strK, eqK, Tryd.underlying4, isPtr, eq_self, true_and, and_true, featPV, g38_0]
       refine hM _ _ ?_
       clear hM M
       refine pops_to rfl fun M hM => ?_
       simp only [pop, St.eval, constSlot, upd_at, Nat.reduceEqDiff, if_true, if_false, popIf, true_implies, false_implies, Bool.true_eq_false, Bool.false_eq_true, reduceCtorEq, true_and, and_true, featPV, g38_0]
       refine hM _ _ ?_
       clear hM M
       exact pops_done (hJ61 _ (wk_same (wk_any ((wk_any ((wk_any ((wk_any ((wk_any (Wk.refl _ _))))))))))))
      ·skip
       intro g38_0 J61 hJ61
       simp only [List.take_succ_cons, List.take_zero]
       simp only [anyAt_cons, anyAt_nil] at hJ61
       refine pops_off (b := false) rfl rfl (by simp only [upd_at, Nat.reduceEqDiff, if_true, if_false, featPV, g38_0]) (by decide) ?_
       refine pops_off (b := false) rfl rfl (by simp only [upd_at, Nat.reduceEqDiff, if_true, if_false, featPV, g38_0]) (by decide) ?_
       refine pops_off (b := false) rfl rfl (by simp only [upd_at, Nat.reduceEqDiff, if_true, if_false, featPV, g38_0]) (by decide) ?_
       refine pops_off (b := false) rfl rfl (by simp only [upd_at, Nat.reduceEqDiff, if_true, if_false, featPV, g38_0]) (by decide) ?_
       refine pops_off (b := false) rfl rfl (by simp only [upd_at, Nat.reduceEqDiff, if_true, if_false, featPV, g38_0]) (by decide) ?_
       refine pops_to rfl fun M hM => ?_
       simp only [pop, St.eval, constSlot, upd_at, Nat.reduceEqDiff, if_true, if_false, popIf, true_implies, false_implies, Bool.true_eq_false, Bool.false_eq_true, reduceCtorEq, true_and, and_true, featPV, g38_0]
       refine hM _ _ ?_
       clear hM M
       exact pops_done (hJ61 _ (wk_same (wk_any ((wk_any ((wk_any ((wk_any ((wk_any (Wk.refl _ _))))))))))))
      simp only [List.drop_succ_cons, List.drop_zero, anyAt_cons, anyAt_nil]
      refine pops_mv (.inr rfl) rfl (by simp only [St.eval, upd_at, Nat.reduceEqDiff, if_true, if_false, featPV] <;> rfl) ?_
      refine pops_done (hR60 _ ?_)
      clear hR60 R60
      try simp only [thenK, scopeK]
      refine hN59 _ ?_
      clear hN59 N59
      refine pwp_ret ?_
      simp only [thenK, blockK, scopeK, bodyK]
      refine ⟨_, rfl, endFun s9 ?_⟩
      try simp only [upd_at, Nat.reduceEqDiff, if_true, if_false, featPV]
      all_goals
       refine congrArg (fun b => Slot.sv (.one (pbool b))) ?_
       simp_all [newE, newN]
end Go.Pw
