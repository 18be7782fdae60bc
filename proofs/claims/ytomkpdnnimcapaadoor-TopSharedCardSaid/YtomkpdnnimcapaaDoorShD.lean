import Derived.Test.YtomkpdnnimcapaaDoorShC
namespace Go.Pw
open Go Go.RowKit Go.Proofs
set_option maxRecDepth 100000
set_option linter.unusedSimpArgs false
set_option linter.unusedVariables false
theorem sz4 : szOf Tryd.prog 4 = some 1 := by kernel_rfl

def seenPV (S : List UInt8) : List PV := (List.range 256).map fun v => pbool (S.any fun x => x.toNat == v)
def seenBlk (S : List UInt8) : Blk := ⟨34, 256, [seenPV S], 0, true⟩
theorem seenPV_len (S : List UInt8) : (seenPV S).length = 256 := by rw [seenPV, List.length_map, List.length_range]
theorem seenPV_get (S : List UInt8) (j : Nat) : (seenPV S)[j]? = if j < 256 then some (pbool (S.any fun x => x.toNat == j)) else none := by
  unfold seenPV
  rw [List.getElem?_map]
  split
  · rename_i h; rw [List.getElem?_range h]; rfl
  · rename_i h; rw [List.getElem?_eq_none (by rw [List.length_range]; omega)]; rfl
theorem seen_has (S : List UInt8) (c : UInt8) : (S.any fun x => x.toNat == c.toNat) = S.contains c := by
  rw [Bool.eq_iff_iff]
  simp only [List.any_eq_true, beq_iff_eq, List.contains_eq_mem, decide_eq_true_eq]
  constructor
  · rintro ⟨x, hx, e⟩
    obtain rfl := UInt8.toNat_inj.1 e
    exact hx
  · intro h
    exact ⟨c, h, rfl⟩
theorem seen_at (S : List UInt8) (c : UInt8) : ∃ rest, (seenPV S).drop c.toNat = pbool (S.contains c) :: rest := by
  have h := seenPV_get S c.toNat
  rw [if_pos c.toNat_lt, seen_has] at h
  have hl : c.toNat < (seenPV S).length := by rw [seenPV_len]; exact c.toNat_lt
  rw [List.drop_eq_getElem_cons hl]
  rw [List.getElem?_eq_getElem hl] at h
  exact ⟨_, by rw [Option.some.inj h]⟩
theorem seen_set (S : List UInt8) (c : UInt8) : splice (seenPV S) c.toNat [pbool true] = seenPV (S ++ [c]) := by
  have hc := c.toNat_lt
  apply List.ext_getElem?
  intro j
  rw [splice_get _ _ _ (by rw [seenPV_len]; simp; omega), seenPV_get, seenPV_get]
  simp only [List.length_cons, List.length_nil, Nat.zero_add, List.any_append, List.any_cons, List.any_nil, Bool.or_false]
  by_cases h1 : j < c.toNat
  · rw [if_pos h1, if_pos (by omega), if_pos (by omega), show (c.toNat == j) = false by simp; omega, Bool.or_false]
  · rw [if_neg h1]
    by_cases h2 : j < c.toNat + 1
    · obtain rfl : j = c.toNat := by omega
      rw [if_pos h2, if_pos hc]
      simp
    · rw [if_neg h2]
      split
      · rw [show (c.toNat == j) = false by simp; omega, Bool.or_false]
      · rfl
theorem ze34 : zeroOf Tryd.prog 34 = some (.agg (Array.replicate 256 (.bool false))) := by kernel_rfl
theorem seen_nil : seenPV [] = List.replicate 256 (pbool false) := by
  apply List.ext_getElem?
  intro j
  rw [seenPV_get, List.getElem?_replicate]
  rfl
theorem alloc34 {h : Hp} {N : Slot → Hp → Prop} (H : ∀ id, h.lim ≤ id → N (.sv (.one (.ptr id 0 0 0))) (h.new id (seenBlk []))) : popAlloc Tryd.prog 34 h N := by
  unfold popAlloc
  rw [ze34]
  have e : constSlot (.agg (Array.replicate 256 (Value.bool false))) = .sv (.agg (List.replicate 256 (pbool false))) := by
    have hall : ((Array.replicate 256 (Value.bool false)).all fun x => x.oneCell') = true := by
      rw [Array.all_eq_true_iff_forall_mem]
      intro x hx
      rw [(Array.mem_replicate.1 hx).2]
      rfl
    unfold constSlot
    simp only []
    rw [if_pos hall]
    simp
  simp only []
  rw [e]
  unfold popBox
  simp only [slotCells, List.length_replicate]
  refine ⟨by omega, fun id hid => ?_⟩
  have := H id hid
  unfold seenBlk at this
  rw [seen_nil] at this
  exact this
theorem store_seen {h : Hp} {id : Nat} {S : List UInt8} {c : UInt8} {N : Slot → Hp → Prop} (hb : h.blk id = some (seenBlk S)) (hs4 : szOf Tryd.prog 4 = some 1) (H : N (.tup []) (h.set id (seenBlk (S ++ [c])))) : popStore Tryd.prog 4 (.sv (.one (.ptr id 0 0 c.toNat))) (.sv (.one (pbool true))) h N := by
  have hc := c.toNat_lt
  unfold popStore
  simp only [hb, seenBlk, slotCells, hs4, seenPV_len, List.getElem?_cons_zero, List.length_cons, List.length_nil]
  refine ⟨trivial, trivial, by omega, ?_⟩
  rw [seen_set]
  exact H
theorem not_seen {l : List (UInt8 × List UInt8)} (hd : (xsOf l).Nodup) {i : Nat} {x : UInt8 × List UInt8} (hx : l[i]? = some x) : (xsOf (l.take i)).contains x.1 = false := by
  rw [List.contains_eq_mem, decide_eq_false_iff_not]
  intro h
  obtain ⟨y, hy, e⟩ := List.mem_map.1 h
  obtain ⟨k, hk⟩ := List.getElem?_of_mem hy
  rw [List.getElem?_take] at hk
  split at hk
  · rename_i hki
    have := nodup_at hd hx hk e
    omega
  · cases hk
theorem valueAt0_fun (W0 : World) (full : Bool) (l : List (UInt8 × List UInt8)) (m : Nat) (hn : l.length ≤ 255) (h0 : 0 < l.length) (hm : ∀ s ∈ l, s.2.length = m) (hm1 : m ≤ 1024) (hd : (xsOf l).Nodup) : PFun Tryd.prog W0 11 [.one (.ro full 2 (l.map shPV)), .one (.val (.int .u8 0))] (.sv (.one (pstr (valL 0 l m)))) :=
  valueAt_fun W0 full l 0 m hn h0 hm hm1 hd
theorem nm7 : (Tryd.f7.name == "runtime.NumGoroutine") = false := by kernel_rfl
set_option maxHeartbeats 2000000 in
theorem secret_fun (W0 : World) (full : Bool) (l : List (UInt8 × List UInt8)) (m : Nat) (hn : l.length ≤ 255) (h0 : 0 < l.length) (hm : ∀ s ∈ l, s.2.length = m) (hm0 : 0 < m) (hm1 : m ≤ 1024) (hd : (xsOf l).Nodup) (hz : ∀ s ∈ l, s.1 ≠ 0) :
  PFun Tryd.prog W0 7 [.one (.ro full 2 (l.map shPV)), .one (pint (l.length : Nat))] (.tup [.one (pstr (valL 0 l m)), .one (pint 0)]) := by
 intro h
 obtain ⟨x0, hx0⟩ : ∃ x, l[0]? = some x := ⟨_, List.getElem?_eq_getElem (by omega)⟩
 have hg0 : (l.map shPV)[0]? = some [.val (.int .i64 (x0.1.toNat : Int)), pstr x0.2] := by simp only [List.getElem?_map, hx0, Option.map_some]
 have hlx0 : x0.2.length = m := hm x0 (List.mem_of_getElem? hx0)
 have hm1b : decide ((m : Int) > 1024) = false := decide_eq_false (by omega)
 have htk : List.take l.length (l.map shPV) = l.map shPV := List.take_of_length_le (by rw [List.length_map]; exact Nat.le_refl _)
 refine pcalls2 (n := 95) Tryd.func7 rfl nm7 rfl fun hb => ?_
 refine pwp_then fun N1 hN1 => ?_
 refine pwp_reg fun R2 hR2 => ?_
 refine pops_mv (.inr rfl) rfl (by simp only [St.eval, constSlot] <;> rfl) ?_
 refine pops_mv (.inr rfl) rfl (by simp only [St.eval, constSlot] <;> rfl) ?_
 refine pops_done (hR2 _ ?_)
 clear hR2 R2
 try simp only [thenK, scopeK]
 refine hN1 _ ?_
 clear hN1 N1
 refine pwp_then fun N3 hN3 => ?_
 refine pwp_block ?_
 refine pwp_then fun N4 hN4 => ?_
 refine pwp_reg fun R5 hR5 => ?_
 refine pops_mv (.inl rfl) rfl (by simp only [St.eval, upd_at, Nat.reduceEqDiff, if_true, if_false, shPV] <;> rfl) ?_
 refine pops_to rfl fun M hM => ?_
 simp only [pop, St.eval, constSlot, upd_at, Nat.reduceEqDiff, if_true, if_false, popBin, binK, intK, strK, eqK, eq_self, true_and, and_true, shPV]
 refine hM _ _ ?_
 clear hM M
 refine pops_mv (.inl rfl) rfl (by simp only [St.eval, upd_at, Nat.reduceEqDiff, if_true, if_false, shPV] <;> rfl) ?_
 apply pops_or0 3 14 17 [15, 16] (by simp only [upd_at, Nat.reduceEqDiff, if_true, if_false, shPV] <;> rfl)
 ·skip
  intro g14_0 J6 hJ6
  simp only [List.take_succ_cons, List.take_zero]
  simp only [anyAt_cons, anyAt_nil] at hJ6
  refine pops_mvg (.inl rfl) rfl rfl (by simp only [upd_at, Nat.reduceEqDiff, if_true, if_false, shPV, g14_0]) (by simp only [St.eval, upd_at, Nat.reduceEqDiff, if_true, if_false, shPV, g14_0] <;> rfl) ?_
  refine pops_do rfl rfl (by simp only [upd_at, Nat.reduceEqDiff, if_true, if_false, shPV, g14_0]) fun M hM => ?_
  simp only [pop, St.eval, constSlot, upd_at, Nat.reduceEqDiff, if_true, if_false, popBin, binK, intK, strK, eqK, eq_self, true_and, and_true, shPV, g14_0]
  refine hM _ _ ?_
  clear hM M
  refine pops_to rfl fun M hM => ?_
  simp only [pop, St.eval, constSlot, upd_at, Nat.reduceEqDiff, if_true, if_false, popIf, true_implies, false_implies, Bool.true_eq_false, Bool.false_eq_true, reduceCtorEq, true_and, and_true, shPV, g14_0]
  refine hM _ _ ?_
  clear hM M
  exact pops_done (hJ6 _ (wk_same (wk_any ((wk_any (Wk.refl _ _))))))
 ·skip
  intro g14_0 J6 hJ6
  simp only [List.take_succ_cons, List.take_zero]
  simp only [anyAt_cons, anyAt_nil] at hJ6
  refine pops_off (b := true) rfl rfl (by simp only [upd_at, Nat.reduceEqDiff, if_true, if_false, shPV, g14_0]) (by decide) ?_
  refine pops_off (b := true) rfl rfl (by simp only [upd_at, Nat.reduceEqDiff, if_true, if_false, shPV, g14_0]) (by decide) ?_
  refine pops_to rfl fun M hM => ?_
  simp only [pop, St.eval, constSlot, upd_at, Nat.reduceEqDiff, if_true, if_false, popIf, true_implies, false_implies, Bool.true_eq_false, Bool.false_eq_true, reduceCtorEq, true_and, and_true, shPV, g14_0]
  refine hM _ _ ?_
  clear hM M
  exact pops_done (hJ6 _ (wk_same (wk_any ((wk_any (Wk.refl _ _))))))
 simp only [List.drop_succ_cons, List.drop_zero, anyAt_cons, anyAt_nil]
 refine pops_mv (.inr rfl) rfl (by simp only [St.eval, upd_at, Nat.reduceEqDiff, if_true, if_false, shPV] <;> rfl) ?_
 refine pops_done (hR5 _ ?_)
 clear hR5 R5
 try simp only [thenK, scopeK]
 refine hN4 _ ?_
 clear hN4 N4
 refine pwp_cond (by simp only [St.eval, upd_at, Nat.reduceEqDiff, if_true, if_false, shPV] <;> rfl) (fun c11 => ?_) (fun c11 => ?_)
 ·skip
  simp only [Bool.or_eq_true, decide_eq_true_eq] at c11
  omega
 ·skip
  refine pwp_then fun N7 hN7 => ?_
  refine pwp_reg fun R8 hR8 => ?_
  refine pops_mv (.inl rfl) rfl (by simp only [St.eval, upd_at, Nat.reduceEqDiff, if_true, if_false, shPV] <;> rfl) ?_
  refine pops_to rfl fun M hM => ?_
  simp only [pop, St.eval, constSlot, upd_at, Nat.reduceEqDiff, if_true, if_false, popCall, List.toList_toArray, List.map_cons, List.map_nil, popBuiltin, popLen, lenOfSlot, List.length_map, Tryd.underlying25, eq_self, true_and, and_true, str_list, str_size, str_app, str_cut, str_get, shPV, List.length_map]
  refine hM _ _ ?_
  clear hM M
  refine pops_mv (.inl rfl) rfl (by simp only [St.eval, upd_at, Nat.reduceEqDiff, if_true, if_false, shPV] <;> rfl) ?_
  refine pops_to rfl fun M hM => ?_
  simp only [pop, St.eval, constSlot, upd_at, Nat.reduceEqDiff, if_true, if_false, popBin, binK, intK, strK, eqK, eq_self, true_and, and_true, shPV]
  refine hM _ _ ?_
  clear hM M
  refine pops_mv (.inr rfl) rfl (by simp only [St.eval, upd_at, Nat.reduceEqDiff, if_true, if_false, shPV] <;> rfl) ?_
  refine pops_done (hR8 _ ?_)
  clear hR8 R8
  try simp only [thenK, scopeK]
  refine hN7 _ ?_
  clear hN7 N7
  refine pwp_cond (by simp only [St.eval, upd_at, Nat.reduceEqDiff, if_true, if_false, shPV] <;> rfl) (fun c18 => ?_) (fun c18 => ?_)
  ·skip
   have := of_decide_eq_true c18
   omega
  ·skip
   refine pwp_then fun N9 hN9 => ?_
   refine pwp_reg fun R10 hR10 => ?_
   refine pops_mv (.inl rfl) rfl (by simp only [St.eval, upd_at, Nat.reduceEqDiff, if_true, if_false, shPV] <;> rfl) ?_
   refine pops_to rfl fun M hM => ?_
   simp only [pop, St.eval, constSlot, upd_at, Nat.reduceEqDiff, if_true, if_false, popCall, List.toList_toArray, List.map_cons, List.map_nil, popBuiltin, popLen, lenOfSlot, List.length_map, Tryd.underlying25, eq_self, true_and, and_true, str_list, str_size, str_app, str_cut, str_get, shPV, List.length_map]
   refine hM _ _ ?_
   clear hM M
   refine pops_to rfl fun M hM => ?_
   simp only [pop, St.eval, constSlot, upd_at, Nat.reduceEqDiff, if_true, if_false, popBin, binK, intK, strK, eqK, eq_self, true_and, and_true, shPV]
   refine hM _ _ ?_
   clear hM M
   refine pops_mv (.inr rfl) rfl (by simp only [St.eval, upd_at, Nat.reduceEqDiff, if_true, if_false, shPV] <;> rfl) ?_
   refine pops_done (hR10 _ ?_)
   clear hR10 R10
   try simp only [thenK, scopeK]
   refine hN9 _ ?_
   clear hN9 N9
   refine pwp_cond (by simp only [St.eval, upd_at, Nat.reduceEqDiff, if_true, if_false, shPV] <;> rfl) (fun c23 => ?_) (fun c23 => ?_)
   ·skip
    have := of_decide_eq_true c23
    omega
   ·skip
    refine pwp_skip ?_
    try simp only [blockK, thenK, scopeK]
    try simp only [thenK, scopeK]
    refine hN3 _ ?_
    clear hN3 N3
    refine pwp_then fun N11 hN11 => ?_
    refine pwp_reg fun R12 hR12 => ?_
    refine pops_to rfl fun M hM => ?_
    simp only [pop, St.eval, constSlot, upd_at, Nat.reduceEqDiff, if_true, if_false, eq_self, true_and, and_true, str_list, str_size, str_app, str_cut, str_get, shPV]
    refine alloc34 fun id6 hid6 => hM _ _ ?_
    have hb1 := blk_new h id6 (seenBlk [])
    have hid' : h.lim ≤ id6 := Nat.le_trans ((Same.refl _)).2 hid6
    have hk1 : Keeps h ((h).new id6 (seenBlk [])) := ((Same.refl _)).keeps.trans (.new (fun j b hj => Nat.lt_of_lt_of_le (hb j b (by rw [← ((Same.refl _)).1]; exact hj)) ((Same.refl _)).2) hid6)
    clear hM M
    refine pops_done (hR12 _ ?_)
    clear hR12 R12
    try simp only [thenK, scopeK]
    refine hN11 _ ?_
    clear hN11 N11
    refine pwp_then fun N13 hN13 => ?_
    refine pwp_then fun N14 hN14 => ?_
    refine pwp_reg fun R15 hR15 => ?_
    refine pops_mv (.inl rfl) rfl (by simp only [St.eval, upd_at, Nat.reduceEqDiff, if_true, if_false, shPV] <;> rfl) ?_
    refine pops_to rfl fun M hM => ?_
    simp only [pop, St.eval, constSlot, upd_at, Nat.reduceEqDiff, if_true, if_false, popCall, List.toList_toArray, List.map_cons, List.map_nil, popBuiltin, popLen, lenOfSlot, List.length_map, Tryd.underlying25, eq_self, true_and, and_true, str_list, str_size, str_app, str_cut, str_get, shPV, List.length_map]
    refine hM _ _ ?_
    clear hM M
    refine pops_mv (.inl rfl) rfl (by simp only [St.eval, constSlot] <;> rfl) ?_
    refine pops_done (hR15 _ ?_)
    clear hR15 R15
    try simp only [thenK, scopeK]
    refine hN14 _ ?_
    clear hN14 N14
    refine pwp_block ?_
    refine pwp_loop (fun k σ => ∃ (i : Nat), (k = l.length - i) ∧ (i ≤ l.length) ∧ (Keeps h σ.hp ∧ (σ.hp).blk id6 = some (seenBlk (xsOf (l.take i)))) ∧ (σ.env 0 = .sv (.one (.ro full 2 (l.map shPV)))) ∧ (σ.env 1 = .sv (.one (pint (l.length : Nat)))) ∧ (σ.env 6 = .sv (.one (.ptr id6 0 0 0))) ∧ (σ.env 27 = .sv (.one (.ro full 2 (l.map shPV)))) ∧ (σ.env 28 = .sv (.one (pint (l.length : Nat)))) ∧ (σ.env 29 = .sv (.one (pint (i : Nat))))) _ ⟨_, .refl _ _, 0, rfl, ?_⟩ ?_
    · exact ⟨Nat.zero_le _, ⟨hk1.trans (Same.keeps (Same.refl _)), by rw [((Same.refl _)).1]; exact hb1⟩, by simp only [upd_at, Nat.reduceEqDiff, if_true, if_false, shPV], by simp only [upd_at, Nat.reduceEqDiff, if_true, if_false, shPV], by simp only [upd_at, Nat.reduceEqDiff, if_true, if_false, shPV], by simp only [upd_at, Nat.reduceEqDiff, if_true, if_false, shPV], by first | rfl | (simp only [upd_at, Nat.reduceEqDiff, if_true, if_false]; rfl), by first | rfl | (simp only [upd_at, Nat.reduceEqDiff, if_true, if_false]; rfl)⟩
    ·rintro k ⟨e, hp0⟩ ⟨i, hk0, hx0_0, sl0, e0_0, e0_1, e0_6, e0_27, e0_28, e0_29⟩
     simp only at sl0 e0_0 e0_1 e0_6 e0_27 e0_28 e0_29
     obtain ⟨hk2, hc2⟩ := sl0
     refine pwp_hpok fun hok0 => ?_
     simp only at hok0
     refine pwp_then fun N16 hN16 => ?_
     refine pwp_reg fun R17 hR17 => ?_
     refine pops_to rfl fun M hM => ?_
     simp only [pop, St.eval, constSlot, upd_at, Nat.reduceEqDiff, if_true, if_false, popBin, binK, intK, strK, eqK, eq_self, true_and, and_true, e0_0, e0_1, e0_6, e0_27, e0_28, e0_29, shPV]
     refine hM _ _ ?_
     clear hM M
     refine pops_done (hR17 _ ?_)
     clear hR17 R17
     try simp only [thenK, scopeK]
     refine hN16 _ ?_
     clear hN16 N16
     refine pwp_then fun N18 hN18 => ?_
     refine pwp_cond (by simp only [St.eval, upd_at, Nat.reduceEqDiff, if_true, if_false, e0_0, e0_1, e0_6, e0_27, e0_28, e0_29, shPV] <;> rfl) (fun c30 => ?_) (fun c30 => ?_)
     ·skip
      have hi : i < l.length := by have := of_decide_eq_true c30; omega
      obtain ⟨x, hx⟩ : ∃ x, l[i]? = some x := ⟨_, List.getElem?_eq_getElem (by omega)⟩
      have hgx : (l.map shPV)[i]? = some [.val (.int .i64 (x.1.toNat : Int)), pstr x.2] := by simp only [List.getElem?_map, hx, Option.map_some]
      have hlx : x.2.length = m := hm x (List.mem_of_getElem? hx)
      have hx1 : x.1.toNat ≠ 0 := fun e => hz x (List.mem_of_getElem? hx) (UInt8.toNat_inj.1 e)
      have hc256 : x.1.toNat < 256 := x.1.toNat_lt
      obtain ⟨rest, hrest⟩ := seen_at (xsOf (l.take i)) x.1
      rw [not_seen hd hx] at hrest
      have hx20 : (x.2 == []) = false := by cases he : x.2 with | nil => rw [he] at hlx; simp at hlx; omega | cons a b => rfl
      refine pwp_skip ?_
      try simp only [thenK, scopeK]
      refine hN18 _ ?_
      clear hN18 N18
      refine pwp_then fun N19 hN19 => ?_
      refine pwp_block ?_
      refine pwp_then fun N20 hN20 => ?_
      refine pwp_reg fun R21 hR21 => ?_
      refine pops_to rfl fun M hM => ?_
      simp only [pop, St.eval, constSlot, upd_at, Nat.reduceEqDiff, if_true, if_false, popIndexAddr, Tryd.underlying25, sz30, eq_self, true_and, and_true, str_list, str_size, str_app, str_cut, str_get, e0_0, e0_1, e0_6, e0_27, e0_28, e0_29, shPV, hgx, Int.toNat_natCast]
      refine ⟨Int.natCast_nonneg _, hM _ _ ?_⟩
      clear hM M
      refine pops_to rfl fun M hM => ?_
      simp only [pop, St.eval, constSlot, upd_at, Nat.reduceEqDiff, if_true, if_false, List.length_cons, List.length_nil, Nat.zero_add, Nat.reduceAdd, Nat.reduceLeDiff, List.take_zero, List.take_succ_cons, List.take_nil, List.drop_succ_cons, List.drop_zero, List.drop_nil, List.nil_append, List.cons_append, List.append_nil, and_self, List.getElem?_cons_zero, List.getElem?_cons_succ, List.set_cons_zero, List.set_cons_succ, Option.some.injEq, popLoad, loadK, isAggD, List.drop_zero, List.getElem?_toArray, List.getElem?_cons_zero, List.getElem?_cons_succ, Bool.false_eq_true, Tryd.underlying30, sz30, eq_self, true_and, and_true, e0_0, e0_1, e0_6, e0_27, e0_28, e0_29, shPV]
      refine hM _ _ ?_
      clear hM M
      refine pops_var (hpOk.same hok0 (Same.refl _)) rfl ze30 (zs := [PV.val (.int .i64 0), PV.val (.string ⟨#[]⟩)]) (by kernel_rfl) (by simp) (by simp only [St.eval, constSlot, slotCells, upd_at, Nat.reduceEqDiff, if_true, if_false, e0_0, e0_1, e0_6, e0_27, e0_28, e0_29, shPV] <;> rfl) (by rfl) (by exact Nat.succ_pos _) (by rw [sz30]; rfl) (fun hv22 sv22 => ?_)
      refine pops_done (hR21 _ ?_)
      clear hR21 R21
      try simp only [thenK, scopeK]
      refine hN20 _ ?_
      clear hN20 N20
      refine pwp_then fun N23 hN23 => ?_
      refine pwp_block ?_
      refine pwp_then fun N24 hN24 => ?_
      refine pwp_reg fun R25 hR25 => ?_
      refine pops_to rfl fun M hM => ?_
      simp only [pop, St.eval, constSlot, upd_at, Nat.reduceEqDiff, if_true, if_false, popFieldAddr, fieldOf, List.drop_succ_cons, List.drop_zero, List.getElem?_toArray, List.getElem?_cons_zero, List.getElem?_cons_succ, Tryd.underlying30, sz3, e0_0, e0_1, e0_6, e0_27, e0_28, e0_29, shPV]
      refine ⟨⟨_, rfl⟩, hM _ _ ?_⟩
      clear hM M
      refine pops_to rfl fun M hM => ?_
      simp only [pop, St.eval, constSlot, upd_at, Nat.reduceEqDiff, if_true, if_false, popLoad, loadK, isAggD, List.drop_zero, List.getElem?_toArray, List.getElem?_cons_zero, List.getElem?_cons_succ, Bool.false_eq_true, Tryd.underlying3, sz3, eq_self, true_and, and_true, e0_0, e0_1, e0_6, e0_27, e0_28, e0_29, shPV]
      refine hM _ _ ?_
      clear hM M
      refine pops_to rfl fun M hM => ?_
      simp only [pop, St.eval, constSlot, upd_at, Nat.reduceEqDiff, if_true, if_false, popBin, binK, intK, strK, eqK, eq_self, true_and, and_true, e0_0, e0_1, e0_6, e0_27, e0_28, e0_29, shPV]
      refine hM _ _ ?_
      clear hM M
      refine pops_mv (.inl rfl) rfl (by simp only [St.eval, upd_at, Nat.reduceEqDiff, if_true, if_false, e0_0, e0_1, e0_6, e0_27, e0_28, e0_29, shPV] <;> rfl) ?_
      apply pops_or0 4 37 41 [38, 39, 40] (by simp only [upd_at, Nat.reduceEqDiff, if_true, if_false, e0_0, e0_1, e0_6, e0_27, e0_28, e0_29, shPV] <;> rfl)
      ·skip
       intro g37_0 J26 hJ26
       simp only [List.take_succ_cons, List.take_zero]
       simp only [anyAt_cons, anyAt_nil] at hJ26
       refine pops_do rfl rfl (by simp only [upd_at, Nat.reduceEqDiff, if_true, if_false, e0_0, e0_1, e0_6, e0_27, e0_28, e0_29, shPV, g37_0]) fun M hM => ?_
       simp only [pop, St.eval, constSlot, upd_at, Nat.reduceEqDiff, if_true, if_false, popFieldAddr, fieldOf, List.drop_succ_cons, List.drop_zero, List.getElem?_toArray, List.getElem?_cons_zero, List.getElem?_cons_succ, Tryd.underlying30, sz3, e0_0, e0_1, e0_6, e0_27, e0_28, e0_29, shPV, g37_0]
       refine ⟨⟨_, rfl⟩, hM _ _ ?_⟩
       clear hM M
       refine pops_do rfl rfl (by simp only [upd_at, Nat.reduceEqDiff, if_true, if_false, e0_0, e0_1, e0_6, e0_27, e0_28, e0_29, shPV, g37_0]) fun M hM => ?_
       simp only [pop, St.eval, constSlot, upd_at, Nat.reduceEqDiff, if_true, if_false, popLoad, loadK, isAggD, List.drop_zero, List.getElem?_toArray, List.getElem?_cons_zero, List.getElem?_cons_succ, Bool.false_eq_true, Tryd.underlying3, sz3, eq_self, true_and, and_true, e0_0, e0_1, e0_6, e0_27, e0_28, e0_29, shPV, g37_0]
       refine hM _ _ ?_
       clear hM M
       refine pops_do rfl rfl (by simp only [upd_at, Nat.reduceEqDiff, if_true, if_false, e0_0, e0_1, e0_6, e0_27, e0_28, e0_29, shPV, g37_0]) fun M hM => ?_
       simp only [pop, St.eval, constSlot, upd_at, Nat.reduceEqDiff, if_true, if_false, popBin, binK, intK, strK, eqK, eq_self, true_and, and_true, e0_0, e0_1, e0_6, e0_27, e0_28, e0_29, shPV, g37_0]
       refine hM _ _ ?_
       clear hM M
       refine pops_to rfl fun M hM => ?_
       simp only [pop, St.eval, constSlot, upd_at, Nat.reduceEqDiff, if_true, if_false, popIf, true_implies, false_implies, Bool.true_eq_false, Bool.false_eq_true, reduceCtorEq, true_and, and_true, e0_0, e0_1, e0_6, e0_27, e0_28, e0_29, shPV, g37_0]
       refine hM _ _ ?_
       clear hM M
       exact pops_done (hJ26 _ (wk_same (wk_any ((wk_any ((wk_any (Wk.refl _ _))))))))
      ·skip
       intro g37_0 J26 hJ26
       simp only [List.take_succ_cons, List.take_zero]
       simp only [anyAt_cons, anyAt_nil] at hJ26
       refine pops_off (b := true) rfl rfl (by simp only [upd_at, Nat.reduceEqDiff, if_true, if_false, e0_0, e0_1, e0_6, e0_27, e0_28, e0_29, shPV, g37_0]) (by decide) ?_
       refine pops_off (b := true) rfl rfl (by simp only [upd_at, Nat.reduceEqDiff, if_true, if_false, e0_0, e0_1, e0_6, e0_27, e0_28, e0_29, shPV, g37_0]) (by decide) ?_
       refine pops_off (b := true) rfl rfl (by simp only [upd_at, Nat.reduceEqDiff, if_true, if_false, e0_0, e0_1, e0_6, e0_27, e0_28, e0_29, shPV, g37_0]) (by decide) ?_
       refine pops_to rfl fun M hM => ?_
       simp only [pop, St.eval, constSlot, upd_at, Nat.reduceEqDiff, if_true, if_false, popIf, true_implies, false_implies, Bool.true_eq_false, Bool.false_eq_true, reduceCtorEq, true_and, and_true, e0_0, e0_1, e0_6, e0_27, e0_28, e0_29, shPV, g37_0]
       refine hM _ _ ?_
       clear hM M
       exact pops_done (hJ26 _ (wk_same (wk_any ((wk_any ((wk_any (Wk.refl _ _))))))))
      simp only [List.drop_succ_cons, List.drop_zero, anyAt_cons, anyAt_nil]
      refine pops_mv (.inr rfl) rfl (by simp only [St.eval, upd_at, Nat.reduceEqDiff, if_true, if_false, e0_0, e0_1, e0_6, e0_27, e0_28, e0_29, shPV] <;> rfl) ?_
      refine pops_done (hR25 _ ?_)
      clear hR25 R25
      try simp only [thenK, scopeK]
      refine hN24 _ ?_
      clear hN24 N24
      refine pwp_cond (by simp only [St.eval, upd_at, Nat.reduceEqDiff, if_true, if_false, e0_0, e0_1, e0_6, e0_27, e0_28, e0_29, shPV] <;> rfl) (fun c33 => ?_) (fun c33 => ?_)
      ·skip
       simp only [Bool.or_eq_true, decide_eq_true_eq] at c33
       omega
      ·skip
       refine pwp_then fun N27 hN27 => ?_
       have hc3 := hc2
       rw [← (sv22).1] at hc3
       refine pwp_reg fun R28 hR28 => ?_
       refine pops_to rfl fun M hM => ?_
       simp only [pop, St.eval, constSlot, upd_at, Nat.reduceEqDiff, if_true, if_false, popFieldAddr, fieldOf, List.drop_succ_cons, List.drop_zero, List.getElem?_toArray, List.getElem?_cons_zero, List.getElem?_cons_succ, Tryd.underlying30, sz3, e0_0, e0_1, e0_6, e0_27, e0_28, e0_29, shPV]
       refine ⟨⟨_, rfl⟩, hM _ _ ?_⟩
       clear hM M
       refine pops_to rfl fun M hM => ?_
       simp only [pop, St.eval, constSlot, upd_at, Nat.reduceEqDiff, if_true, if_false, popLoad, loadK, isAggD, List.drop_zero, List.getElem?_toArray, List.getElem?_cons_zero, List.getElem?_cons_succ, Bool.false_eq_true, Tryd.underlying3, sz3, eq_self, true_and, and_true, e0_0, e0_1, e0_6, e0_27, e0_28, e0_29, shPV]
       refine hM _ _ ?_
       clear hM M
       refine pops_to rfl fun M hM => ?_
       simp only [pop, St.eval, constSlot, upd_at, Nat.reduceEqDiff, if_true, if_false, popIndexAddr, Tryd.underlying34, sz4, eq_self, true_and, and_true, str_list, str_size, str_app, str_cut, str_get, e0_0, e0_1, e0_6, e0_27, e0_28, e0_29, shPV, Int.toNat_natCast, Nat.zero_add, Nat.mul_one]
       refine ⟨Int.natCast_nonneg _, by omega, ?_⟩
       refine hM _ _ ?_
       clear hM M
       refine pops_to rfl fun M hM => ?_
       simp only [pop, St.eval, constSlot, upd_at, Nat.reduceEqDiff, if_true, if_false, popLoad, loadK, isAggD, List.drop_zero, List.getElem?_toArray, List.getElem?_cons_zero, List.getElem?_cons_succ, Bool.false_eq_true, Tryd.underlying4, sz4, eq_self, true_and, and_true, e0_0, e0_1, e0_6, e0_27, e0_28, e0_29, shPV, hc3, seenBlk, List.getElem?_cons_zero, hrest]
       refine hM _ _ ?_
       clear hM M
       refine pops_mv (.inr rfl) rfl (by simp only [St.eval, upd_at, Nat.reduceEqDiff, if_true, if_false, e0_0, e0_1, e0_6, e0_27, e0_28, e0_29, shPV] <;> rfl) ?_
       refine pops_done (hR28 _ ?_)
       clear hR28 R28
       try simp only [thenK, scopeK]
       refine hN27 _ ?_
       clear hN27 N27
       refine pwp_cond_false (by simp only [St.eval, upd_at, Nat.reduceEqDiff, if_true, if_false, e0_0, e0_1, e0_6, e0_27, e0_28, e0_29, shPV] <;> rfl) ?_
       refine pwp_then fun N29 hN29 => ?_
       refine pwp_dreg 21 mixed (by decide +kernel) fun R30 hR30 => ?_
       simp only [List.take_succ_cons, List.take_zero, List.drop_succ_cons, List.drop_zero]
       apply lex_to
       · rfl
       ·intro h' s' M hM
        simp only [pop, St.eval, constSlot, upd_at, Nat.reduceEqDiff, if_true, if_false, popFieldAddr, fieldOf, List.drop_succ_cons, List.drop_zero, List.getElem?_toArray, List.getElem?_cons_zero, List.getElem?_cons_succ, Tryd.underlying30, sz9, e0_0, e0_1, e0_6, e0_27, e0_28, e0_29, shPV, s'.1]
        exact ⟨⟨_, rfl⟩, hM _ (.refl _)⟩
       apply lex_to
       · rfl
       ·intro h' s' M hM
        simp only [pop, St.eval, constSlot, upd_at, Nat.reduceEqDiff, if_true, if_false, popLoad, loadK, isAggD, List.drop_zero, List.getElem?_toArray, List.getElem?_cons_zero, List.getElem?_cons_succ, Bool.false_eq_true, Tryd.underlying9, sz9, eq_self, true_and, and_true, e0_0, e0_1, e0_6, e0_27, e0_28, e0_29, shPV, s'.1]
        exact hM _ (.refl _)
       apply lex_to
       · rfl
       ·intro h' s' M hM
        simp only [pop, St.eval, constSlot, upd_at, Nat.reduceEqDiff, if_true, if_false, popBin, binK, intK, strK, eqK, Tryd.underlying9, isPtr, eq_self, true_and, and_true, str_list, str_size, str_app, str_cut, str_get, e0_0, e0_1, e0_6, e0_27, e0_28, e0_29, shPV, hx20, s'.1]
        exact hM _ (.refl _)
       apply lex_to
       · rfl
       ·intro h' s' M hM
        simp only [pop, St.eval, constSlot, upd_at, Nat.reduceEqDiff, if_true, if_false, eq_self, true_and, and_true, str_list, str_size, str_app, str_cut, str_get, e0_0, e0_1, e0_6, e0_27, e0_28, e0_29, shPV, s'.1]
        exact hM _ (.refl _)
       apply lex_do
       · rfl
       · rfl
       · simp only [upd_at, Nat.reduceEqDiff, if_true, if_false, e0_0, e0_1, e0_6, e0_27, e0_28, e0_29, shPV]
       ·intro h' s' M hM
        simp only [pop, St.eval, constSlot, upd_at, Nat.reduceEqDiff, if_true, if_false, popFieldAddr, fieldOf, List.drop_succ_cons, List.drop_zero, List.getElem?_toArray, List.getElem?_cons_zero, List.getElem?_cons_succ, Tryd.underlying30, sz9, e0_0, e0_1, e0_6, e0_27, e0_28, e0_29, shPV, s'.1]
        exact ⟨⟨_, rfl⟩, hM _ (.refl _)⟩
       apply lex_do
       · rfl
       · rfl
       · simp only [upd_at, Nat.reduceEqDiff, if_true, if_false, e0_0, e0_1, e0_6, e0_27, e0_28, e0_29, shPV]
       ·intro h' s' M hM
        simp only [pop, St.eval, constSlot, upd_at, Nat.reduceEqDiff, if_true, if_false, popLoad, loadK, isAggD, List.drop_zero, List.getElem?_toArray, List.getElem?_cons_zero, List.getElem?_cons_succ, Bool.false_eq_true, Tryd.underlying9, sz9, eq_self, true_and, and_true, e0_0, e0_1, e0_6, e0_27, e0_28, e0_29, shPV, s'.1]
        exact hM _ (.refl _)
       apply lex_do
       · rfl
       · rfl
       · simp only [upd_at, Nat.reduceEqDiff, if_true, if_false, e0_0, e0_1, e0_6, e0_27, e0_28, e0_29, shPV]
       ·intro h' s' M hM
        simp only [pop, St.eval, constSlot, upd_at, Nat.reduceEqDiff, if_true, if_false, popCall, List.toList_toArray, List.map_cons, List.map_nil, popBuiltin, popLen, lenOfSlot, List.length_map, Tryd.underlying9, eq_self, true_and, and_true, str_list, str_size, str_app, str_cut, str_get, e0_0, e0_1, e0_6, e0_27, e0_28, e0_29, shPV, hlx, s'.1]
        exact hM _ (.refl _)
       apply lex_do
       · rfl
       · rfl
       · simp only [upd_at, Nat.reduceEqDiff, if_true, if_false, e0_0, e0_1, e0_6, e0_27, e0_28, e0_29, shPV]
       ·intro h' s' M hM
        simp only [pop, St.eval, constSlot, upd_at, Nat.reduceEqDiff, if_true, if_false, popBin, binK, intK, strK, eqK, eq_self, true_and, and_true, e0_0, e0_1, e0_6, e0_27, e0_28, e0_29, shPV, hm1b, s'.1]
        exact hM _ (.refl _)
       apply lex_to
       · rfl
       ·intro h' s' M hM
        simp only [pop, St.eval, constSlot, upd_at, Nat.reduceEqDiff, if_true, if_false, popIf, true_implies, false_implies, Bool.true_eq_false, Bool.false_eq_true, reduceCtorEq, true_and, and_true, e0_0, e0_1, e0_6, e0_27, e0_28, e0_29, shPV, s'.1]
        exact hM _ (.refl _)
       apply lex_to
       · rfl
       ·intro h' s' M hM
        simp only [pop, St.eval, constSlot, upd_at, Nat.reduceEqDiff, if_true, if_false, eq_self, true_and, and_true, str_list, str_size, str_app, str_cut, str_get, e0_0, e0_1, e0_6, e0_27, e0_28, e0_29, shPV, s'.1]
        exact hM _ (.refl _)
       apply lex_do
       · rfl
       · rfl
       · simp only [upd_at, Nat.reduceEqDiff, if_true, if_false, e0_0, e0_1, e0_6, e0_27, e0_28, e0_29, shPV]
       ·intro h' s' M hM
        simp only [pop, St.eval, constSlot, upd_at, Nat.reduceEqDiff, if_true, if_false, popFieldAddr, fieldOf, List.drop_succ_cons, List.drop_zero, List.getElem?_toArray, List.getElem?_cons_zero, List.getElem?_cons_succ, Tryd.underlying30, sz9, e0_0, e0_1, e0_6, e0_27, e0_28, e0_29, shPV, s'.1]
        exact ⟨⟨_, rfl⟩, hM _ (.refl _)⟩
       apply lex_do
       · rfl
       · rfl
       · simp only [upd_at, Nat.reduceEqDiff, if_true, if_false, e0_0, e0_1, e0_6, e0_27, e0_28, e0_29, shPV]
       ·intro h' s' M hM
        simp only [pop, St.eval, constSlot, upd_at, Nat.reduceEqDiff, if_true, if_false, popLoad, loadK, isAggD, List.drop_zero, List.getElem?_toArray, List.getElem?_cons_zero, List.getElem?_cons_succ, Bool.false_eq_true, Tryd.underlying9, sz9, eq_self, true_and, and_true, e0_0, e0_1, e0_6, e0_27, e0_28, e0_29, shPV, s'.1]
        exact hM _ (.refl _)
       apply lex_do
       · rfl
       · rfl
       · simp only [upd_at, Nat.reduceEqDiff, if_true, if_false, e0_0, e0_1, e0_6, e0_27, e0_28, e0_29, shPV]
       ·intro h' s' M hM
        simp only [pop, St.eval, constSlot, upd_at, Nat.reduceEqDiff, if_true, if_false, popCall, List.toList_toArray, List.map_cons, List.map_nil, popBuiltin, popLen, lenOfSlot, List.length_map, Tryd.underlying9, eq_self, true_and, and_true, str_list, str_size, str_app, str_cut, str_get, e0_0, e0_1, e0_6, e0_27, e0_28, e0_29, shPV, hlx, s'.1]
        exact hM _ (.refl _)
       apply lex_do
       · rfl
       · rfl
       · simp only [upd_at, Nat.reduceEqDiff, if_true, if_false, e0_0, e0_1, e0_6, e0_27, e0_28, e0_29, shPV]
       ·intro h' s' M hM
        simp only [pop, St.eval, constSlot, upd_at, Nat.reduceEqDiff, if_true, if_false, eq_self, true_and, and_true, str_list, str_size, str_app, str_cut, str_get, e0_0, e0_1, e0_6, e0_27, e0_28, e0_29, shPV, s'.1]
        exact hM _ (.refl _)
       apply lex_do
       · rfl
       · rfl
       · simp only [upd_at, Nat.reduceEqDiff, if_true, if_false, e0_0, e0_1, e0_6, e0_27, e0_28, e0_29, shPV]
       ·intro h' s' M hM
        simp only [pop, St.eval, constSlot, upd_at, Nat.reduceEqDiff, if_true, if_false, popIndexAddr, Tryd.underlying25, sz30, eq_self, true_and, and_true, str_list, str_size, str_app, str_cut, str_get, e0_0, e0_1, e0_6, e0_27, e0_28, e0_29, shPV, hg0, show (0 : Int).toNat = 0 from rfl, s'.1]
        refine ⟨by decide, ?_⟩
        exact hM _ (.refl _)
       apply lex_do
       · rfl
       · rfl
       · simp only [upd_at, Nat.reduceEqDiff, if_true, if_false, e0_0, e0_1, e0_6, e0_27, e0_28, e0_29, shPV]
       ·intro h' s' M hM
        simp only [pop, St.eval, constSlot, upd_at, Nat.reduceEqDiff, if_true, if_false, popFieldAddr, fieldOf, List.drop_succ_cons, List.drop_zero, List.getElem?_toArray, List.getElem?_cons_zero, List.getElem?_cons_succ, Tryd.underlying30, sz9, e0_0, e0_1, e0_6, e0_27, e0_28, e0_29, shPV, s'.1]
        exact ⟨⟨_, rfl⟩, hM _ (.refl _)⟩
       apply lex_do
       · rfl
       · rfl
       · simp only [upd_at, Nat.reduceEqDiff, if_true, if_false, e0_0, e0_1, e0_6, e0_27, e0_28, e0_29, shPV]
       ·intro h' s' M hM
        simp only [pop, St.eval, constSlot, upd_at, Nat.reduceEqDiff, if_true, if_false, popLoad, loadK, isAggD, List.drop_zero, List.getElem?_toArray, List.getElem?_cons_zero, List.getElem?_cons_succ, Bool.false_eq_true, Tryd.underlying9, sz9, eq_self, true_and, and_true, e0_0, e0_1, e0_6, e0_27, e0_28, e0_29, shPV, s'.1]
        exact hM _ (.refl _)
       apply lex_do
       · rfl
       · rfl
       · simp only [upd_at, Nat.reduceEqDiff, if_true, if_false, e0_0, e0_1, e0_6, e0_27, e0_28, e0_29, shPV]
       ·intro h' s' M hM
        simp only [pop, St.eval, constSlot, upd_at, Nat.reduceEqDiff, if_true, if_false, popCall, List.toList_toArray, List.map_cons, List.map_nil, popBuiltin, popLen, lenOfSlot, List.length_map, Tryd.underlying9, eq_self, true_and, and_true, str_list, str_size, str_app, str_cut, str_get, e0_0, e0_1, e0_6, e0_27, e0_28, e0_29, shPV, hlx0, s'.1]
        exact hM _ (.refl _)
       apply lex_do
       · rfl
       · rfl
       · simp only [upd_at, Nat.reduceEqDiff, if_true, if_false, e0_0, e0_1, e0_6, e0_27, e0_28, e0_29, shPV]
       ·intro h' s' M hM
        simp only [pop, St.eval, constSlot, upd_at, Nat.reduceEqDiff, if_true, if_false, popBin, binK, intK, strK, eqK, Tryd.underlying3, isPtr, eq_self, true_and, and_true, e0_0, e0_1, e0_6, e0_27, e0_28, e0_29, shPV, bne_self_eq_false, s'.1]
        exact hM _ (.refl _)
       apply lex_to
       · rfl
       ·intro h' s' M hM
        simp only [pop, St.eval, constSlot, upd_at, Nat.reduceEqDiff, if_true, if_false, popIf, true_implies, false_implies, Bool.true_eq_false, Bool.false_eq_true, reduceCtorEq, true_and, and_true, e0_0, e0_1, e0_6, e0_27, e0_28, e0_29, shPV, s'.1]
        exact hM _ (.refl _)
       apply lex_to
       · rfl
       ·intro h' s' M hM
        simp only [pop, St.eval, constSlot, upd_at, Nat.reduceEqDiff, if_true, if_false, eq_self, true_and, and_true, str_list, str_size, str_app, str_cut, str_get, e0_0, e0_1, e0_6, e0_27, e0_28, e0_29, shPV, s'.1]
        exact hM _ (.refl _)
       refine lex_done fun hq sq => ?_
       replace sq := Same.trans sv22 sq
       refine pops_done (hR30 _ ?_)
       clear hR30 R30
       try simp only [thenK, scopeK]
       refine hN29 _ ?_
       clear hN29 N29
       refine pwp_cond_false (by simp only [St.eval, upd_at, Nat.reduceEqDiff, if_true, if_false, e0_0, e0_1, e0_6, e0_27, e0_28, e0_29, shPV] <;> rfl) ?_
       refine pwp_skip ?_
       try simp only [blockK, thenK, scopeK]
       try simp only [thenK, scopeK]
       refine hN23 _ ?_
       clear hN23 N23
       refine pwp_reg fun R31 hR31 => ?_
       refine pops_to rfl fun M hM => ?_
       simp only [pop, St.eval, constSlot, upd_at, Nat.reduceEqDiff, if_true, if_false, popFieldAddr, fieldOf, List.drop_succ_cons, List.drop_zero, List.getElem?_toArray, List.getElem?_cons_zero, List.getElem?_cons_succ, Tryd.underlying30, sz3, e0_0, e0_1, e0_6, e0_27, e0_28, e0_29, shPV]
       refine ⟨⟨_, rfl⟩, hM _ _ ?_⟩
       clear hM M
       refine pops_to rfl fun M hM => ?_
       simp only [pop, St.eval, constSlot, upd_at, Nat.reduceEqDiff, if_true, if_false, popLoad, loadK, isAggD, List.drop_zero, List.getElem?_toArray, List.getElem?_cons_zero, List.getElem?_cons_succ, Bool.false_eq_true, Tryd.underlying3, sz3, eq_self, true_and, and_true, e0_0, e0_1, e0_6, e0_27, e0_28, e0_29, shPV]
       refine hM _ _ ?_
       clear hM M
       refine pops_to rfl fun M hM => ?_
       simp only [pop, St.eval, constSlot, upd_at, Nat.reduceEqDiff, if_true, if_false, popIndexAddr, Tryd.underlying34, sz4, eq_self, true_and, and_true, str_list, str_size, str_app, str_cut, str_get, e0_0, e0_1, e0_6, e0_27, e0_28, e0_29, shPV, Int.toNat_natCast, Nat.zero_add, Nat.mul_one]
       refine ⟨Int.natCast_nonneg _, by omega, ?_⟩
       refine hM _ _ ?_
       clear hM M
       refine pops_no fun M hM => ?_
       simp only [pop, St.eval, constSlot, upd_at, Nat.reduceEqDiff, if_true, if_false, eq_self, true_and, and_true, str_list, str_size, str_app, str_cut, str_get, e0_0, e0_1, e0_6, e0_27, e0_28, e0_29, shPV]
       have hk3 : Keeps h hq := hk2.trans (Same.keeps sq)
       refine store_seen (c := x.1) (by rw [(sq).1]; exact hc2) sz4 (hM _ _ ?_)
       clear hM M
       refine pops_done (hR31 _ ?_)
       clear hR31 R31
       try simp only [blockK, thenK, scopeK]
       try simp only [thenK, scopeK]
       refine hN19 _ ?_
       clear hN19 N19
       refine pwp_reg fun R32 hR32 => ?_
       refine pops_to rfl fun M hM => ?_
       simp only [pop, St.eval, constSlot, upd_at, Nat.reduceEqDiff, if_true, if_false, popBin, binK, intK, strK, eqK, eq_self, true_and, and_true, e0_0, e0_1, e0_6, e0_27, e0_28, e0_29, shPV]
       refine hM _ _ ?_
       clear hM M
       refine pops_mv (.inl rfl) rfl (by simp only [St.eval, upd_at, Nat.reduceEqDiff, if_true, if_false, e0_0, e0_1, e0_6, e0_27, e0_28, e0_29, shPV] <;> rfl) ?_
       refine pops_done (hR32 _ ?_)
       clear hR32 R32
       try simp only [thenK, scopeK]
       exact ⟨_, by omega, _, .refl _ _, i + 1, rfl, by omega, ⟨Keeps.set hk3 hb hid', by rw [take_snoc hx]; exact blk_set _ _ _⟩, by simp only [upd_at, Nat.reduceEqDiff, if_true, if_false, e0_0, e0_1, e0_6, e0_27, e0_28, e0_29, shPV], by simp only [upd_at, Nat.reduceEqDiff, if_true, if_false, e0_0, e0_1, e0_6, e0_27, e0_28, e0_29, shPV], by simp only [upd_at, Nat.reduceEqDiff, if_true, if_false, e0_0, e0_1, e0_6, e0_27, e0_28, e0_29, shPV], by simp only [upd_at, Nat.reduceEqDiff, if_true, if_false, e0_0, e0_1, e0_6, e0_27, e0_28, e0_29, shPV], by simp only [upd_at, Nat.reduceEqDiff, if_true, if_false, e0_0, e0_1, e0_6, e0_27, e0_28, e0_29, shPV], by simp only [upd_at, Nat.reduceEqDiff, if_true, if_false, e0_29]; rw [wrap_succ (by omega)]⟩
     ·skip
      have hi := of_decide_eq_false c30
      refine pwp_exit ?_
      try simp only [thenK, blockK, scopeK, if_true, Nat.reduceEqDiff, if_false]
      clear hN18 N18
      try simp only [blockK, scopeK, if_true, Nat.reduceEqDiff, if_false, thenK]
      try simp only [thenK, scopeK]
      refine hN13 _ ?_
      clear hN13 N13
      refine pwp_then fun N33 hN33 => ?_
      refine pwp_then fun N34 hN34 => ?_
      refine pwp_reg fun R35 hR35 => ?_
      refine pops_mv (.inl rfl) rfl (by simp only [St.eval, upd_at, Nat.reduceEqDiff, if_true, if_false, e0_0, e0_1, e0_6, e0_27, e0_28, e0_29, shPV] <;> rfl) ?_
      refine pops_mv (.inl rfl) rfl (by simp only [St.eval, upd_at, Nat.reduceEqDiff, if_true, if_false, e0_0, e0_1, e0_6, e0_27, e0_28, e0_29, shPV] <;> rfl) ?_
      refine pops_to rfl fun M hM => ?_
      simp only [pop, St.eval, constSlot, upd_at, Nat.reduceEqDiff, if_true, if_false, popSlice, boundOf, Option.map_none, Option.map_some, Tryd.underlying25, sz30, eq_self, true_and, and_true, str_list, str_size, str_app, str_cut, str_get, e0_0, e0_1, e0_6, e0_27, e0_28, e0_29, shPV, Int.toNat_natCast, List.length_map]
      refine ⟨Int.natCast_nonneg _, Int.le_refl _, Int.le_refl _, hM _ _ ?_⟩
      clear hM M
      refine pops_to rfl fun M hM => ?_
      simp only [pop, St.eval, constSlot, upd_at, Nat.reduceEqDiff, if_true, if_false, popCall, List.toList_toArray, List.map_cons, List.map_nil, popBuiltin, popLen, lenOfSlot, List.length_map, Tryd.underlying25, eq_self, true_and, and_true, str_list, str_size, str_app, str_cut, str_get, e0_0, e0_1, e0_6, e0_27, e0_28, e0_29, shPV, List.length_drop, List.length_take, List.length_map, Nat.min_self, Nat.sub_self]
      refine hM _ _ ?_
      clear hM M
      refine pops_mv (.inl rfl) rfl (by simp only [St.eval, constSlot] <;> rfl) ?_
      refine pops_done (hR35 _ ?_)
      clear hR35 R35
      try simp only [thenK, scopeK]
      refine hN34 _ ?_
      clear hN34 N34
      refine pwp_block ?_
      refine pwp_loop (fun k σ => (k = 0) ∧ (Keeps h σ.hp) ∧ (σ.env 0 = .sv (.one (.ro full 2 (l.map shPV)))) ∧ (σ.env 1 = .sv (.one (pint (l.length : Nat)))) ∧ (σ.env 75 = .sv (.one (pint (0 : Nat)))) ∧ (σ.env 76 = .sv (.one (pint (0 : Nat))))) _ ⟨_, .refl _ _, rfl, ?_⟩ ?_
      · exact ⟨hk2.trans (Same.keeps (Same.refl _)), by simp only [upd_at, Nat.reduceEqDiff, if_true, if_false, e0_0, e0_1, e0_6, e0_27, e0_28, e0_29, shPV], by simp only [upd_at, Nat.reduceEqDiff, if_true, if_false, e0_0, e0_1, e0_6, e0_27, e0_28, e0_29, shPV], by first | rfl | (simp only [upd_at, Nat.reduceEqDiff, if_true, if_false]; rfl), by first | rfl | (simp only [upd_at, Nat.reduceEqDiff, if_true, if_false]; rfl)⟩
      ·rintro k ⟨e, hp1⟩ ⟨hk1, sl1, e1_0, e1_1, e1_75, e1_76⟩
       simp only at sl1 e1_0 e1_1 e1_75 e1_76
       have hk5 := sl1
       refine pwp_hpok fun hok1 => ?_
       simp only at hok1
       refine pwp_then fun N36 hN36 => ?_
       refine pwp_reg fun R37 hR37 => ?_
       refine pops_to rfl fun M hM => ?_
       simp only [pop, St.eval, constSlot, upd_at, Nat.reduceEqDiff, if_true, if_false, popBin, binK, intK, strK, eqK, eq_self, true_and, and_true, e1_0, e1_1, e1_75, e1_76, shPV]
       refine hM _ _ ?_
       clear hM M
       refine pops_done (hR37 _ ?_)
       clear hR37 R37
       try simp only [thenK, scopeK]
       refine hN36 _ ?_
       clear hN36 N36
       refine pwp_then fun N38 hN38 => ?_
       refine pwp_cond (by simp only [St.eval, upd_at, Nat.reduceEqDiff, if_true, if_false, e1_0, e1_1, e1_75, e1_76, shPV] <;> rfl) (fun c77 => ?_) (fun c77 => ?_)
       ·skip
        simp at c77
       ·skip
        refine pwp_exit ?_
        try simp only [thenK, blockK, scopeK, if_true, Nat.reduceEqDiff, if_false]
        clear hN38 N38
        try simp only [blockK, scopeK, if_true, Nat.reduceEqDiff, if_false, thenK]
        try simp only [thenK, scopeK]
        refine hN33 _ ?_
        clear hN33 N33
        refine pwp_then fun N39 hN39 => ?_
        refine pwp_reg fun R40 hR40 => ?_
        refine pops_mv (.inl rfl) rfl (by simp only [St.eval, upd_at, Nat.reduceEqDiff, if_true, if_false, e1_0, e1_1, e1_75, e1_76, shPV] <;> rfl) ?_
        refine pops_mv (.inl rfl) rfl (by simp only [St.eval, upd_at, Nat.reduceEqDiff, if_true, if_false, e1_0, e1_1, e1_75, e1_76, shPV] <;> rfl) ?_
        refine pops_to rfl fun M hM => ?_
        simp only [pop, St.eval, constSlot, upd_at, Nat.reduceEqDiff, if_true, if_false, popSlice, boundOf, Option.map_none, Option.map_some, Tryd.underlying25, sz30, eq_self, true_and, and_true, str_list, str_size, str_app, str_cut, str_get, e1_0, e1_1, e1_75, e1_76, shPV, Int.toNat_natCast, List.length_map, htk, show (0 : Int).toNat = 0 from rfl, List.drop_zero]
        refine ⟨Int.le_refl _, Int.natCast_nonneg _, Int.le_refl _, hM _ _ ?_⟩
        clear hM M
        refine pops_to rfl fun M hM => ?_
        simp only [pop, St.eval, constSlot, upd_at, Nat.reduceEqDiff, if_true, if_false, popCall, List.toList_toArray, List.map_cons, List.map_nil, svs, List.mapM_cons, List.mapM_nil, Option.bind_eq_bind, Option.bind_some, Option.pure_def, List.append_nil, List.cons_append, List.nil_append, str_size, e1_0, e1_1, e1_75, e1_76, shPV]
        refine PFun.use (valueAt0_fun W0 _ l m hn h0 hm hm1 hd) fun h1 s1 => hM _ _ ?_
        replace s1 := Same.trans (Same.refl _) s1
        clear hM M
        refine pops_mv (.inr rfl) rfl (by simp only [St.eval, upd_at, Nat.reduceEqDiff, if_true, if_false, e1_0, e1_1, e1_75, e1_76, shPV] <;> rfl) ?_
        refine pops_mv (.inr rfl) rfl (by simp only [St.eval, constSlot] <;> rfl) ?_
        refine pops_done (hR40 _ ?_)
        clear hR40 R40
        try simp only [thenK, scopeK]
        refine hN39 _ ?_
        clear hN39 N39
        refine pwp_ret ?_
        simp only [thenK, blockK, scopeK, bodyK]
        exact ⟨_, rfl, endKeeps2 (hk5.trans (Same.keeps s1)) rfl⟩
end Go.Pw
