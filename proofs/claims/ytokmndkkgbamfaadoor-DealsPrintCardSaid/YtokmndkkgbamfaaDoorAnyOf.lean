import Derived.Test.YtokmndkkgbamfaaDoorRunes
namespace Go.Pw
open Go Go.RowKit Go.Proofs
set_option maxRecDepth 100000
set_option linter.unusedSimpArgs false
set_option linter.unusedVariables false
/-- IndexRune over a text of low bytes. -/
theorem indexRune_fun (W0 : World) (cs : List UInt8) (r : Nat) (hcs : ∀ b ∈ cs, b.toNat < 128) (hl : cs.length ≤ 4611686018427387904) : ∃ z, PFun Tryd.prog W0 52 [.one (pstr cs), .one (.val (.int .i32 r))] (.sv (.one (pint z))) ∧ (0 ≤ z ↔ r < 128 ∧ r.toUInt8 ∈ cs) := by
  rcases Nat.lt_or_ge r 128 with h | h
  · refine ⟨_, indexRune_low W0 cs r h, ?_⟩
    by_cases hm : r.toUInt8 ∈ cs
    · exact ⟨fun _ => ⟨h, hm⟩, fun _ => indexByte_in hm⟩
    · rw [indexByte_not hm]
      exact ⟨fun x => by omega, fun x => absurd x.2 hm⟩
  · exact ⟨_, indexRune_high W0 cs r hcs hl (by omega), fun x => by omega, fun x => by omega⟩
theorem nm55 : (Tryd.f55.name == "runtime.NumGoroutine") = false := by kernel_rfl
theorem set_contains (W0 : World) (id : Nat) (cs : List UInt8) (c : UInt8) (h : Hp) (hc : h.blk id = some (setBlk cs)) :
  PCalls Tryd.prog W0 55 [.one (.ptr id 0 0 0), .one (.val (.int .u8 c.toNat))] h (fun r h' => r = .sv (.one (pbool (cs.contains c))) ∧ Same h h') := by
 obtain ⟨rest, hrest⟩ := setPV_at cs c
 have hc256 : c.toNat < 256 := c.toNat_lt
 refine pcalls2 (n := 10) Tryd.func55 rfl nm55 rfl fun hb => ?_
 refine pwp_then fun N1 hN1 => ?_
 refine pwp_reg fun R2 hR2 => ?_
 refine pops_to rfl fun M hM => ?_
 simp only [pop, St.eval, constSlot, upd_at, Nat.reduceEqDiff, if_true, if_false, eq_self, true_and, and_true, str_list, str_size, str_app, str_cut, str_get, hc]
 refine hM _ _ ?_
 clear hM M
 refine pops_done (hR2 _ ?_)
 clear hR2 R2
 try simp only [thenK, scopeK]
 refine hN1 _ ?_
 clear hN1 N1
 refine pwp_then fun N3 hN3 => ?_
 refine pwp_reg fun R4 hR4 => ?_
 refine pops_to rfl fun M hM => ?_
 simp only [pop, St.eval, constSlot, upd_at, Nat.reduceEqDiff, if_true, if_false, eq_self, true_and, and_true, str_list, str_size, str_app, str_cut, str_get, hc]
 refine hM _ _ ?_
 clear hM M
 refine pops_to rfl fun M hM => ?_
 simp only [pop, St.eval, constSlot, upd_at, Nat.reduceEqDiff, if_true, if_false, eq_self, true_and, and_true, str_list, str_size, str_app, str_cut, str_get, hc]
 refine hM _ _ ?_
 clear hM M
 refine pops_to rfl fun M hM => ?_
 simp only [pop, St.eval, constSlot, upd_at, Nat.reduceEqDiff, if_true, if_false, eq_self, true_and, and_true, str_list, str_size, str_app, str_cut, str_get, hc]
 refine hM _ _ ?_
 clear hM M
 refine pops_to rfl fun M hM => ?_
 simp only [pop, St.eval, constSlot, upd_at, Nat.reduceEqDiff, if_true, if_false, popIndexAddr, Tryd.underlying85, sz4, eq_self, true_and, and_true, str_list, str_size, str_app, str_cut, str_get, hc, Int.toNat_natCast, Nat.zero_add, Nat.mul_one]
 refine ⟨Int.natCast_nonneg _, by omega, ?_⟩
 refine hM _ _ ?_
 clear hM M
 refine pops_to rfl fun M hM => ?_
 simp only [pop, St.eval, constSlot, upd_at, Nat.reduceEqDiff, if_true, if_false, popLoad, loadK, isAggD, List.drop_zero, List.getElem?_toArray, List.getElem?_cons_zero, List.getElem?_cons_succ, Bool.false_eq_true, Tryd.underlying4, sz4, eq_self, true_and, and_true, str_list, str_size, str_app, str_cut, str_get, hc, setBlk, List.getElem?_cons_zero, hrest]
 refine hM _ _ ?_
 clear hM M
 refine pops_to rfl fun M hM => ?_
 simp only [pop, St.eval, constSlot, upd_at, Nat.reduceEqDiff, if_true, if_false, eq_self, true_and, and_true, str_list, str_size, str_app, str_cut, str_get, hc]
 refine hM _ _ ?_
 clear hM M
 refine pops_done (hR4 _ ?_)
 clear hR4 R4
 try simp only [thenK, scopeK]
 refine hN3 _ ?_
 clear hN3 N3
 refine pwp_ret ?_
 simp only [thenK, blockK, scopeK, bodyK]
 refine ⟨_, rfl, ?_⟩
 try simp only [upd_at, Nat.reduceEqDiff, if_true, if_false, hc]
 exact ⟨_, _, .refl _ _ _, rfl, .refl _⟩

theorem nm42 : (Tryd.f42.name == "runtime.NumGoroutine") = false := by kernel_rfl
theorem indexAny_rel (W0 : World) (s cs : List UInt8) (hcs : ∀ b ∈ cs, b.toNat < 128) (hl : cs.length < 4294967281) (h2 : 2 ≤ cs.length) (hs : s.length ≤ 4611686018427387904) (h : Hp) :
  PCalls Tryd.prog W0 42 [.one (pstr s), .one (pstr cs)] h (fun r h' => ∃ z, r = .sv (.one (pint z)) ∧ (0 ≤ z ↔ ∃ b ∈ s, b ∈ cs) ∧ Same h h') := by
 have hc0 : (cs == []) = false := by cases cs <;> simp at h2 ⊢
 have hc1 : ((cs.length : Int) == 1) = false := by simp; omega
 refine pcalls2 (n := 55) Tryd.func42 rfl nm42 rfl fun hb => ?_
 refine pwp_then fun N1 hN1 => ?_
 refine pwp_reg fun R2 hR2 => ?_
 refine pops_to rfl fun M hM => ?_
 simp only [pop, St.eval, constSlot, upd_at, Nat.reduceEqDiff, if_true, if_false, eq_self, true_and, and_true, str_list, str_size, str_app, str_cut, str_get]
 refine hM _ _ ?_
 clear hM M
 refine pops_done (hR2 _ ?_)
 clear hR2 R2
 try simp only [thenK, scopeK]
 refine hN1 _ ?_
 clear hN1 N1
 refine pwp_then fun N3 hN3 => ?_
 refine pwp_then fun N4 hN4 => ?_
 refine pwp_reg fun R5 hR5 => ?_
 refine pops_to rfl fun M hM => ?_
 simp only [pop, St.eval, constSlot, upd_at, Nat.reduceEqDiff, if_true, if_false, eq_self, true_and, and_true, str_list, str_size, str_app, str_cut, str_get]
 refine hM _ _ ?_
 clear hM M
 refine pops_to rfl fun M hM => ?_
 simp only [pop, St.eval, constSlot, upd_at, Nat.reduceEqDiff, if_true, if_false, popBin, binK, intK, strK, eqK, Tryd.underlying9, isPtr, eq_self, true_and, and_true, str_list, str_size, str_app, str_cut, str_get, hc0]
 refine hM _ _ ?_
 clear hM M
 refine pops_done (hR5 _ ?_)
 clear hR5 R5
 try simp only [thenK, scopeK]
 refine hN4 _ ?_
 clear hN4 N4
 refine pwp_cond_false (by simp only [St.eval, upd_at, Nat.reduceEqDiff, if_true, if_false] <;> rfl) ?_
 refine pwp_skip ?_
 try simp only [thenK, scopeK]
 refine hN3 _ ?_
 clear hN3 N3
 refine pwp_then fun N6 hN6 => ?_
 refine pwp_then fun N7 hN7 => ?_
 refine pwp_reg fun R8 hR8 => ?_
 refine pops_to rfl fun M hM => ?_
 simp only [pop, St.eval, constSlot, upd_at, Nat.reduceEqDiff, if_true, if_false, eq_self, true_and, and_true, str_list, str_size, str_app, str_cut, str_get]
 refine hM _ _ ?_
 clear hM M
 refine pops_to rfl fun M hM => ?_
 simp only [pop, St.eval, constSlot, upd_at, Nat.reduceEqDiff, if_true, if_false, popCall, List.toList_toArray, List.map_cons, List.map_nil, popBuiltin, popLen, lenOfSlot, List.length_map, Tryd.underlying9, eq_self, true_and, and_true, str_list, str_size, str_app, str_cut, str_get]
 refine hM _ _ ?_
 clear hM M
 refine pops_to rfl fun M hM => ?_
 simp only [pop, St.eval, constSlot, upd_at, Nat.reduceEqDiff, if_true, if_false, popBin, binK, intK, strK, eqK, Tryd.underlying3, isPtr, eq_self, true_and, and_true, str_list, str_size, str_app, str_cut, str_get, hc1]
 refine hM _ _ ?_
 clear hM M
 refine pops_done (hR8 _ ?_)
 clear hR8 R8
 try simp only [thenK, scopeK]
 refine hN7 _ ?_
 clear hN7 N7
 refine pwp_cond_false (by simp only [St.eval, upd_at, Nat.reduceEqDiff, if_true, if_false] <;> rfl) ?_
 refine pwp_skip ?_
 try simp only [thenK, scopeK]
 refine hN6 _ ?_
 clear hN6 N6
 refine pwp_then fun N9 hN9 => ?_
 refine pwp_then fun N10 hN10 => ?_
 refine pwp_reg fun R11 hR11 => ?_
 refine pops_to rfl fun M hM => ?_
 simp only [pop, St.eval, constSlot, upd_at, Nat.reduceEqDiff, if_true, if_false, eq_self, true_and, and_true, str_list, str_size, str_app, str_cut, str_get]
 refine hM _ _ ?_
 clear hM M
 refine pops_to rfl fun M hM => ?_
 simp only [pop, St.eval, constSlot, upd_at, Nat.reduceEqDiff, if_true, if_false, popCall, List.toList_toArray, List.map_cons, List.map_nil, popBuiltin, popLen, lenOfSlot, List.length_map, Tryd.underlying9, eq_self, true_and, and_true, str_list, str_size, str_app, str_cut, str_get]
 refine hM _ _ ?_
 clear hM M
 refine pops_to rfl fun M hM => ?_
 simp only [pop, St.eval, constSlot, upd_at, Nat.reduceEqDiff, if_true, if_false, popCall, List.toList_toArray, List.map_cons, List.map_nil, svs, List.mapM_cons, List.mapM_nil, Option.bind_eq_bind, Option.bind_some, Option.pure_def, List.append_nil, List.cons_append, List.nil_append, eq_self, true_and, and_true, str_list, str_size, str_app, str_cut, str_get]
 refine PFun.use (useSet_fun W0 _) fun h1 s1 => hM _ _ ?_
 replace s1 := Same.trans (Same.refl _) s1
 clear hM M
 refine pops_done (hR11 _ ?_)
 clear hR11 R11
 try simp only [thenK, scopeK]
 refine hN10 _ ?_
 clear hN10 N10
 refine pwp_cond (by simp only [St.eval, upd_at, Nat.reduceEqDiff, if_true, if_false] <;> rfl) (fun c26 => ?_) (fun c26 => ?_)
 ·skip
  refine pwp_then fun N12 hN12 => ?_
  refine pwp_reg fun R13 hR13 => ?_
  refine pops_to rfl fun M hM => ?_
  simp only [pop, St.eval, constSlot, upd_at, Nat.reduceEqDiff, if_true, if_false, eq_self, true_and, and_true, str_list, str_size, str_app, str_cut, str_get]
  refine hM _ _ ?_
  clear hM M
  refine pops_to rfl fun M hM => ?_
  simp only [pop, St.eval, constSlot, upd_at, Nat.reduceEqDiff, if_true, if_false, popCall, List.toList_toArray, List.map_cons, List.map_nil, svs, List.mapM_cons, List.mapM_nil, Option.bind_eq_bind, Option.bind_some, Option.pure_def, List.append_nil, List.cons_append, List.nil_append, eq_self, true_and, and_true, str_list, str_size, str_app, str_cut, str_get]
  refine PFun.use (makeSet_fun W0 cs hcs hl) fun h2 s2 => hM _ _ ?_
  replace s2 := Same.trans s1 s2
  clear hM M
  refine pops_to rfl fun M hM => ?_
  simp only [pop, St.eval, constSlot, upd_at, Nat.reduceEqDiff, if_true, if_false, eq_self, true_and, and_true, str_list, str_size, str_app, str_cut, str_get]
  refine hM _ _ ?_
  clear hM M
  refine pops_to rfl fun M hM => ?_
  simp only [pop, St.eval, constSlot, upd_at, Nat.reduceEqDiff, if_true, if_false, List.getElem?_toArray, List.getElem?_cons_zero, List.getElem?_cons_succ, eq_self, true_and, and_true, str_list, str_size, str_app, str_cut, str_get]
  refine hM _ _ ?_
  clear hM M
  refine pops_to rfl fun M hM => ?_
  simp only [pop, St.eval, constSlot, upd_at, Nat.reduceEqDiff, if_true, if_false, List.getElem?_toArray, List.getElem?_cons_zero, List.getElem?_cons_succ, eq_self, true_and, and_true, str_list, str_size, str_app, str_cut, str_get]
  refine hM _ _ ?_
  clear hM M
  refine pops_to rfl fun M hM => ?_
  simp only [pop, St.eval, constSlot, upd_at, Nat.reduceEqDiff, if_true, if_false, eq_self, true_and, and_true, str_list, str_size, str_app, str_cut, str_get]
  refine alloc85 fun id hid => hM _ _ ?_
  have hb1 := blk_new h2 id setBlk0
  have hid' : h.lim ≤ id := Nat.le_trans s2.2 hid
  have hk1 : Keeps h (h2.new id setBlk0) := s2.keeps.trans (.new (fun j b hj => Nat.lt_of_lt_of_le (hb j b (by rw [← s2.1]; exact hj)) s2.2) hid)
  clear hM M
  refine pops_no fun M hM => ?_
  simp only [pop, St.eval, constSlot, upd_at, Nat.reduceEqDiff, if_true, if_false, eq_self, true_and, and_true, str_list, str_size, str_app, str_cut, str_get]
  refine store85 hb1 (hM _ _ ?_)
  clear hM M
  refine pops_to rfl fun M hM => ?_
  simp only [pop, St.eval, constSlot, upd_at, Nat.reduceEqDiff, if_true, if_false, eq_self, true_and, and_true, str_list, str_size, str_app, str_cut, str_get]
  refine hM _ _ ?_
  clear hM M
  refine pops_done (hR13 _ ?_)
  clear hR13 R13
  try simp only [thenK, scopeK]
  refine hN12 _ ?_
  clear hN12 N12
  refine pwp_then fun N14 hN14 => ?_
  refine pwp_reg fun R15 hR15 => ?_
  refine pops_to rfl fun M hM => ?_
  simp only [pop, St.eval, constSlot, upd_at, Nat.reduceEqDiff, if_true, if_false, eq_self, true_and, and_true, str_list, str_size, str_app, str_cut, str_get]
  refine hM _ _ ?_
  clear hM M
  refine pops_done (hR15 _ ?_)
  clear hR15 R15
  try simp only [thenK, scopeK]
  refine hN14 _ ?_
  clear hN14 N14
  refine pwp_cond_true (by simp only [St.eval, upd_at, Nat.reduceEqDiff, if_true, if_false] <;> rfl) ?_
  refine pwp_then fun N16 hN16 => ?_
  refine pwp_then fun N17 hN17 => ?_
  refine pwp_reg fun R18 hR18 => ?_
  refine pops_to rfl fun M hM => ?_
  simp only [pop, St.eval, constSlot, upd_at, Nat.reduceEqDiff, if_true, if_false, eq_self, true_and, and_true, str_list, str_size, str_app, str_cut, str_get]
  refine hM _ _ ?_
  clear hM M
  refine pops_done (hR18 _ ?_)
  clear hR18 R18
  try simp only [thenK, scopeK]
  refine hN17 _ ?_
  clear hN17 N17
  refine pwp_block ?_
  refine pwp_loop (fun k σ => ∃ (i : Nat), (k = s.length - i) ∧ (i ≤ s.length) ∧ (∀ b ∈ s.take i, b ∉ cs) ∧ (Keeps h σ.hp ∧ (σ.hp).blk id = some (setBlk cs)) ∧ (σ.env 0 = .sv (.one (pstr s))) ∧ (σ.env 6 = .sv (.one (.ptr id 0 0 0))) ∧ (σ.env 8 = .sv (.one (pint (i : Nat))))) _ ⟨_, .refl _ _, 0, rfl, ?_⟩ ?_
  · exact ⟨Nat.zero_le _, by simp, ⟨hk1.set hb hid', blk_set _ _ _⟩, by simp only [upd_at, Nat.reduceEqDiff, if_true, if_false], by simp only [upd_at, Nat.reduceEqDiff, if_true, if_false], by simp only [upd_at, Nat.reduceEqDiff, if_true, if_false]; rfl⟩
  ·rintro k ⟨e, hp0⟩ ⟨i, hk0, hx0_0, hx0_1, sl0, e0_0, e0_6, e0_8⟩
   simp only at sl0 e0_0 e0_6 e0_8
   obtain ⟨hk2, hc2⟩ := sl0
   refine pwp_then fun N19 hN19 => ?_
   refine pwp_then fun N20 hN20 => ?_
   refine pwp_reg fun R21 hR21 => ?_
   refine pops_to rfl fun M hM => ?_
   simp only [pop, St.eval, constSlot, upd_at, Nat.reduceEqDiff, if_true, if_false, eq_self, true_and, and_true, str_list, str_size, str_app, str_cut, str_get, e0_0, e0_6, e0_8]
   refine hM _ _ ?_
   clear hM M
   refine pops_to rfl fun M hM => ?_
   simp only [pop, St.eval, constSlot, upd_at, Nat.reduceEqDiff, if_true, if_false, eq_self, true_and, and_true, str_list, str_size, str_app, str_cut, str_get, e0_0, e0_6, e0_8]
   refine hM _ _ ?_
   clear hM M
   refine pops_to rfl fun M hM => ?_
   simp only [pop, St.eval, constSlot, upd_at, Nat.reduceEqDiff, if_true, if_false, popCall, List.toList_toArray, List.map_cons, List.map_nil, popBuiltin, popLen, lenOfSlot, List.length_map, Tryd.underlying9, eq_self, true_and, and_true, str_list, str_size, str_app, str_cut, str_get, e0_0, e0_6, e0_8]
   refine hM _ _ ?_
   clear hM M
   refine pops_to rfl fun M hM => ?_
   simp only [pop, St.eval, constSlot, upd_at, Nat.reduceEqDiff, if_true, if_false, popBin, binK, intK, strK, eqK, eq_self, true_and, and_true, str_list, str_size, str_app, str_cut, str_get, e0_0, e0_6, e0_8]
   refine hM _ _ ?_
   clear hM M
   refine pops_done (hR21 _ ?_)
   clear hR21 R21
   try simp only [thenK, scopeK]
   refine hN20 _ ?_
   clear hN20 N20
   refine pwp_cond (by simp only [St.eval, upd_at, Nat.reduceEqDiff, if_true, if_false, e0_0, e0_6, e0_8] <;> rfl) (fun c36 => ?_) (fun c36 => ?_)
   ·skip
    have hi : i < s.length := by have := of_decide_eq_true c36; omega
    obtain ⟨x, hx⟩ : ∃ x, s[i]? = some x := ⟨_, List.getElem?_eq_getElem hi⟩
    refine pwp_skip ?_
    try simp only [thenK, scopeK]
    refine hN19 _ ?_
    clear hN19 N19
    refine pwp_then fun N22 hN22 => ?_
    refine pwp_block ?_
    refine pwp_then fun N23 hN23 => ?_
    refine pwp_reg fun R24 hR24 => ?_
    refine pops_to rfl fun M hM => ?_
    simp only [pop, St.eval, constSlot, upd_at, Nat.reduceEqDiff, if_true, if_false, eq_self, true_and, and_true, str_list, str_size, str_app, str_cut, str_get, e0_0, e0_6, e0_8]
    refine hM _ _ ?_
    clear hM M
    refine pops_to rfl fun M hM => ?_
    simp only [pop, St.eval, constSlot, upd_at, Nat.reduceEqDiff, if_true, if_false, eq_self, true_and, and_true, str_list, str_size, str_app, str_cut, str_get, e0_0, e0_6, e0_8]
    refine hM _ _ ?_
    clear hM M
    refine pops_to rfl fun M hM => ?_
    simp only [pop, St.eval, constSlot, upd_at, Nat.reduceEqDiff, if_true, if_false, popIndex, partK, Tryd.underlying9, eq_self, true_and, and_true, str_list, str_size, str_app, str_cut, str_get, e0_0, e0_6, e0_8, hx, Int.toNat_natCast]
    refine ⟨Int.natCast_nonneg _, hM _ _ ?_⟩
    clear hM M
    refine pops_to rfl fun M hM => ?_
    simp only [pop, St.eval, constSlot, upd_at, Nat.reduceEqDiff, if_true, if_false, popCall, List.toList_toArray, List.map_cons, List.map_nil, svs, List.mapM_cons, List.mapM_nil, Option.bind_eq_bind, Option.bind_some, Option.pure_def, List.append_nil, List.cons_append, List.nil_append, eq_self, true_and, and_true, str_list, str_size, str_app, str_cut, str_get, e0_0, e0_6, e0_8]
    refine (set_contains W0 id cs x _ hc2).mono ?_
    rintro _ h3 ⟨rfl, s3⟩
    replace hk2 := hk2.trans s3.keeps
    replace hc2 : h3.blk id = some (setBlk cs) := by rw [s3.1]; exact hc2
    refine hM _ _ ?_
    clear hM M
    refine pops_done (hR24 _ ?_)
    clear hR24 R24
    try simp only [thenK, scopeK]
    refine hN23 _ ?_
    clear hN23 N23
    refine pwp_cond (by simp only [St.eval, upd_at, Nat.reduceEqDiff, if_true, if_false, e0_0, e0_6, e0_8] <;> rfl) (fun c42 => ?_) (fun c42 => ?_)
    ·skip
     simp only [List.contains_eq_mem, decide_eq_true_eq, decide_eq_false_iff_not] at c42
     refine pwp_then fun N25 hN25 => ?_
     refine pwp_reg fun R26 hR26 => ?_
     refine pops_to rfl fun M hM => ?_
     simp only [pop, St.eval, constSlot, upd_at, Nat.reduceEqDiff, if_true, if_false, eq_self, true_and, and_true, str_list, str_size, str_app, str_cut, str_get, e0_0, e0_6, e0_8]
     refine hM _ _ ?_
     clear hM M
     refine pops_to rfl fun M hM => ?_
     simp only [pop, St.eval, constSlot, upd_at, Nat.reduceEqDiff, if_true, if_false, eq_self, true_and, and_true, str_list, str_size, str_app, str_cut, str_get, e0_0, e0_6, e0_8]
     refine hM _ _ ?_
     clear hM M
     refine pops_done (hR26 _ ?_)
     clear hR26 R26
     try simp only [thenK, scopeK]
     refine hN25 _ ?_
     clear hN25 N25
     refine pwp_ret ?_
     simp only [thenK, blockK, scopeK, bodyK]
     clear hN22 N22 hN16 N16 hN9 N9
     refine ⟨_, rfl, ?_⟩
     try simp only [upd_at, Nat.reduceEqDiff, if_true, if_false, e0_0, e0_6, e0_8]
     obtain ⟨r', h', hw, e, hs⟩ := endKeeps1 (W0 := W0) (v := .int .i64 i) hk2 rfl
     exact ⟨r', h', hw, _, e, ⟨fun _ => ⟨x, List.mem_of_getElem? hx, c42⟩, fun _ => Int.natCast_nonneg _⟩, hs⟩
    ·skip
     simp only [List.contains_eq_mem, decide_eq_true_eq, decide_eq_false_iff_not] at c42
     refine pwp_skip ?_
     try simp only [blockK, thenK, scopeK]
     try simp only [thenK, scopeK]
     refine hN22 _ ?_
     clear hN22 N22
     refine pwp_reg fun R27 hR27 => ?_
     refine pops_to rfl fun M hM => ?_
     simp only [pop, St.eval, constSlot, upd_at, Nat.reduceEqDiff, if_true, if_false, eq_self, true_and, and_true, str_list, str_size, str_app, str_cut, str_get, e0_0, e0_6, e0_8]
     refine hM _ _ ?_
     clear hM M
     refine pops_to rfl fun M hM => ?_
     simp only [pop, St.eval, constSlot, upd_at, Nat.reduceEqDiff, if_true, if_false, popBin, binK, intK, strK, eqK, eq_self, true_and, and_true, str_list, str_size, str_app, str_cut, str_get, e0_0, e0_6, e0_8]
     refine hM _ _ ?_
     clear hM M
     refine pops_to rfl fun M hM => ?_
     simp only [pop, St.eval, constSlot, upd_at, Nat.reduceEqDiff, if_true, if_false, eq_self, true_and, and_true, str_list, str_size, str_app, str_cut, str_get, e0_0, e0_6, e0_8]
     refine hM _ _ ?_
     clear hM M
     refine pops_done (hR27 _ ?_)
     clear hR27 R27
     try simp only [thenK, scopeK]
     exact ⟨_, by omega, _, .refl _ _, i + 1, rfl, by omega, take_any hx c42 hx0_1, ⟨hk2, hc2⟩, by simp only [upd_at, Nat.reduceEqDiff, if_true, if_false, e0_0, e0_6, e0_8], by simp only [upd_at, Nat.reduceEqDiff, if_true, if_false, e0_0, e0_6, e0_8], by simp only [upd_at, Nat.reduceEqDiff, if_true, if_false, e0_8]; rw [wrap_succ (by omega)]⟩
   ·skip
    have hi := of_decide_eq_false c36
    refine pwp_exit ?_
    try simp only [thenK, blockK, scopeK, if_true, Nat.reduceEqDiff, if_false]
    clear hN19 N19
    try simp only [blockK, scopeK, if_true, Nat.reduceEqDiff, if_false, thenK]
    try simp only [thenK, scopeK]
    refine hN16 _ ?_
    clear hN16 N16
    refine pwp_then fun N28 hN28 => ?_
    refine pwp_reg fun R29 hR29 => ?_
    refine pops_to rfl fun M hM => ?_
    simp only [pop, St.eval, constSlot, upd_at, Nat.reduceEqDiff, if_true, if_false, eq_self, true_and, and_true, str_list, str_size, str_app, str_cut, str_get, e0_0, e0_6, e0_8]
    refine hM _ _ ?_
    clear hM M
    refine pops_done (hR29 _ ?_)
    clear hR29 R29
    try simp only [thenK, scopeK]
    refine hN28 _ ?_
    clear hN28 N28
    refine pwp_ret ?_
    simp only [thenK, blockK, scopeK, bodyK]
    clear hN9 N9
    refine ⟨_, rfl, ?_⟩
    try simp only [upd_at, Nat.reduceEqDiff, if_true, if_false, e0_0, e0_6, e0_8]
    obtain ⟨r', h', hw, e, hs⟩ := endKeeps1 (W0 := W0) (v := .int .i64 (-1)) hk2 rfl
    exact ⟨r', h', hw, _, e, ⟨fun x => by omega, fun x => absurd x (none_any (by omega) hx0_1)⟩, hs⟩
 ·skip
  refine pwp_skip ?_
  try simp only [thenK, scopeK]
  refine hN9 _ ?_
  clear hN9 N9
  refine pwp_then fun N30 hN30 => ?_
  refine pwp_rng 1 rfl rfl rfl rfl rfl Tryd.underlying9 fun R31 hR31 => ?_
  simp only [List.take_succ_cons, List.take_zero]
  refine pops_to rfl fun M hM => ?_
  simp only [pop, St.eval, constSlot, upd_at, Nat.reduceEqDiff, if_true, if_false, eq_self, true_and, and_true, str_list, str_size, str_app, str_cut, str_get]
  refine hM _ _ ?_
  clear hM M
  refine pops_done (hR31 _ ?_)
  clear hR31 R31
  refine ⟨_, by simp only [St.eval, constSlot, upd_at, Nat.reduceEqDiff, if_true, if_false] <;> rfl, fun kk => ⟨fun pos σ => (pos ≤ s.length) ∧ (∀ b ∈ s.take pos, b ∉ cs) ∧ (Same h σ.hp) ∧ (σ.env 0 = .sv (.one (pstr s))) ∧ (σ.env 1 = .sv (.one (pstr cs))), ⟨_, .refl _ _, by simp only [St.put, upd, upd_at, Nat.reduceEqDiff, if_true, if_false], ?_⟩, ?_⟩⟩
  · exact ⟨Nat.zero_le _, by simp, s1, by simp only [St.put, upd_at, Nat.reduceEqDiff, if_true, if_false], by simp only [St.put, upd_at, Nat.reduceEqDiff, if_true, if_false]⟩
  ·rintro pos e hp1 it1 ⟨hx1_0, hx1_1, sl1, e1_0, e1_1⟩
   simp only at sl1 e1_0 e1_1
   refine ⟨fun hlt => ?_, fun hge => ?_⟩
   ·skip
    have hlt' : pos < s.length := by rw [str_size] at hlt; exact hlt
    obtain ⟨x, hx⟩ : ∃ x, s[pos]? = some x := ⟨_, List.getElem?_eq_getElem hlt'⟩
    have hd := decode_any hx
    generalize Utf8.decode ⟨s.toArray⟩ pos = dw at hd ⊢
    obtain ⟨rn, wd⟩ := dw
    simp only at hd ⊢
    refine pwp_then fun N32 hN32 => ?_
    refine pwp_cond_true (by simp only [St.eval, upd_at, Nat.reduceEqDiff, if_true, if_false, e1_0, e1_1] <;> rfl) ?_
    refine pwp_skip ?_
    try simp only [thenK, scopeK]
    refine hN32 _ ?_
    clear hN32 N32
    refine pwp_block ?_
    refine pwp_then fun N33 hN33 => ?_
    refine pwp_reg fun R34 hR34 => ?_
    refine pops_to rfl fun M hM => ?_
    simp only [pop, St.eval, constSlot, upd_at, Nat.reduceEqDiff, if_true, if_false, List.getElem?_toArray, List.getElem?_cons_zero, List.getElem?_cons_succ, eq_self, true_and, and_true, str_list, str_size, str_app, str_cut, str_get, e1_0, e1_1]
    refine hM _ _ ?_
    clear hM M
    refine pops_to rfl fun M hM => ?_
    simp only [pop, St.eval, constSlot, upd_at, Nat.reduceEqDiff, if_true, if_false, List.getElem?_toArray, List.getElem?_cons_zero, List.getElem?_cons_succ, eq_self, true_and, and_true, str_list, str_size, str_app, str_cut, str_get, e1_0, e1_1]
    refine hM _ _ ?_
    clear hM M
    refine pops_to rfl fun M hM => ?_
    simp only [pop, St.eval, constSlot, upd_at, Nat.reduceEqDiff, if_true, if_false, eq_self, true_and, and_true, str_list, str_size, str_app, str_cut, str_get, e1_0, e1_1]
    refine hM _ _ ?_
    clear hM M
    refine pops_to rfl fun M hM => ?_
    simp only [pop, St.eval, constSlot, upd_at, Nat.reduceEqDiff, if_true, if_false, eq_self, true_and, and_true, str_list, str_size, str_app, str_cut, str_get, e1_0, e1_1]
    refine hM _ _ ?_
    clear hM M
    refine pops_done (hR34 _ ?_)
    clear hR34 R34
    try simp only [thenK, scopeK]
    refine hN33 _ ?_
    clear hN33 N33
    refine pwp_then fun N35 hN35 => ?_
    refine pwp_reg fun R36 hR36 => ?_
    refine pops_to rfl fun M hM => ?_
    simp only [pop, St.eval, constSlot, upd_at, Nat.reduceEqDiff, if_true, if_false, eq_self, true_and, and_true, str_list, str_size, str_app, str_cut, str_get, e1_0, e1_1]
    refine hM _ _ ?_
    clear hM M
    refine pops_to rfl fun M hM => ?_
    simp only [pop, St.eval, constSlot, upd_at, Nat.reduceEqDiff, if_true, if_false, eq_self, true_and, and_true, str_list, str_size, str_app, str_cut, str_get, e1_0, e1_1]
    refine hM _ _ ?_
    clear hM M
    refine pops_to rfl fun M hM => ?_
    simp only [pop, St.eval, constSlot, upd_at, Nat.reduceEqDiff, if_true, if_false, popCall, List.toList_toArray, List.map_cons, List.map_nil, svs, List.mapM_cons, List.mapM_nil, Option.bind_eq_bind, Option.bind_some, Option.pure_def, List.append_nil, List.cons_append, List.nil_append, eq_self, true_and, and_true, str_list, str_size, str_app, str_cut, str_get, e1_0, e1_1]
    obtain ⟨z, hz, hzi⟩ := indexRune_fun W0 cs rn hcs (by omega)
    refine PFun.use hz fun h3 s3 => hM _ _ ?_
    replace s3 := Same.trans sl1 s3
    clear hM M
    refine pops_to rfl fun M hM => ?_
    simp only [pop, St.eval, constSlot, upd_at, Nat.reduceEqDiff, if_true, if_false, popBin, binK, intK, strK, eqK, eq_self, true_and, and_true, str_list, str_size, str_app, str_cut, str_get, e1_0, e1_1]
    refine hM _ _ ?_
    clear hM M
    refine pops_done (hR36 _ ?_)
    clear hR36 R36
    try simp only [thenK, scopeK]
    refine hN35 _ ?_
    clear hN35 N35
    refine pwp_cond (by simp only [St.eval, upd_at, Nat.reduceEqDiff, if_true, if_false, e1_0, e1_1] <;> rfl) (fun c53 => ?_) (fun c53 => ?_)
    ·skip
     simp only [decide_eq_true_eq, decide_eq_false_iff_not, ge_iff_le] at c53
     rw [hzi] at c53
     refine pwp_then fun N37 hN37 => ?_
     refine pwp_reg fun R38 hR38 => ?_
     refine pops_to rfl fun M hM => ?_
     simp only [pop, St.eval, constSlot, upd_at, Nat.reduceEqDiff, if_true, if_false, eq_self, true_and, and_true, str_list, str_size, str_app, str_cut, str_get, e1_0, e1_1]
     refine hM _ _ ?_
     clear hM M
     refine pops_to rfl fun M hM => ?_
     simp only [pop, St.eval, constSlot, upd_at, Nat.reduceEqDiff, if_true, if_false, eq_self, true_and, and_true, str_list, str_size, str_app, str_cut, str_get, e1_0, e1_1]
     refine hM _ _ ?_
     clear hM M
     refine pops_done (hR38 _ ?_)
     clear hR38 R38
     try simp only [thenK, scopeK]
     refine hN37 _ ?_
     clear hN37 N37
     refine pwp_ret ?_
     simp only [thenK, blockK, scopeK, bodyK]
     clear hN30 N30
     refine ⟨_, rfl, ?_⟩
     try simp only [upd_at, Nat.reduceEqDiff, if_true, if_false, e1_0, e1_1]
     exact ⟨_, _, .refl _ _ _, _, rfl, ⟨fun _ => ⟨x, List.mem_of_getElem? hx, hit_any hd c53⟩, fun _ => Int.natCast_nonneg _⟩, s3⟩
    ·skip
     simp only [decide_eq_true_eq, decide_eq_false_iff_not, ge_iff_le] at c53
     rw [hzi] at c53
     refine pwp_skip ?_
     try simp only [blockK, thenK, scopeK]
     try simp only [thenK, scopeK]
     have hst := step_any hx hcs hd c53 hx1_1
     exact ⟨_, .refl _ _, by simp only [upd_at, Nat.reduceEqDiff, if_true, if_false, it1], hst.1, hst.2, s3, by simp only [upd_at, Nat.reduceEqDiff, if_true, if_false, e1_0, e1_1], by simp only [upd_at, Nat.reduceEqDiff, if_true, if_false, e1_0, e1_1]⟩
   ·skip
    rw [str_size] at hge
    refine pwp_then fun N39 hN39 => ?_
    refine pwp_cond_false (by simp only [St.eval, upd_at, Nat.reduceEqDiff, if_true, if_false, e1_0, e1_1] <;> rfl) ?_
    refine pwp_exit ?_
    try simp only [thenK, blockK, scopeK, if_true, Nat.reduceEqDiff, if_false]
    clear hN39 N39
    try simp only [blockK, scopeK, if_true, Nat.reduceEqDiff, if_false, thenK]
    try simp only [thenK, scopeK]
    refine hN30 _ ?_
    clear hN30 N30
    refine pwp_then fun N40 hN40 => ?_
    refine pwp_reg fun R41 hR41 => ?_
    refine pops_to rfl fun M hM => ?_
    simp only [pop, St.eval, constSlot, upd_at, Nat.reduceEqDiff, if_true, if_false, eq_self, true_and, and_true, str_list, str_size, str_app, str_cut, str_get, e1_0, e1_1]
    refine hM _ _ ?_
    clear hM M
    refine pops_done (hR41 _ ?_)
    clear hR41 R41
    try simp only [thenK, scopeK]
    refine hN40 _ ?_
    clear hN40 N40
    refine pwp_ret ?_
    simp only [thenK, blockK, scopeK, bodyK]
    refine ⟨_, rfl, ?_⟩
    try simp only [upd_at, Nat.reduceEqDiff, if_true, if_false, e1_0, e1_1]
    exact ⟨_, _, .refl _ _ _, _, rfl, ⟨fun x => by omega, fun x => absurd x (none_any (by omega) hx1_1)⟩, sl1⟩

theorem nm34 : (Tryd.f34.name == "runtime.NumGoroutine") = false := by kernel_rfl
theorem containsAny_fun (W0 : World) (s cs : List UInt8) (hcs : ∀ b ∈ cs, b.toNat < 128) (hl : cs.length < 4294967281) (h2 : 2 ≤ cs.length) (hs : s.length ≤ 4611686018427387904) :
  PFun Tryd.prog W0 34 [.one (pstr s), .one (pstr cs)] (.sv (.one (pbool (s.any cs.contains)))) := by
 intro h
 refine pcalls2 (n := 9) Tryd.func34 rfl nm34 rfl fun hb => ?_
 refine pwp_then fun N1 hN1 => ?_
 refine pwp_reg fun R2 hR2 => ?_
 refine pops_to rfl fun M hM => ?_
 simp only [pop, St.eval, constSlot, upd_at, Nat.reduceEqDiff, if_true, if_false, eq_self, true_and, and_true, str_list, str_size, str_app, str_cut, str_get]
 refine hM _ _ ?_
 clear hM M
 refine pops_done (hR2 _ ?_)
 clear hR2 R2
 try simp only [thenK, scopeK]
 refine hN1 _ ?_
 clear hN1 N1
 refine pwp_then fun N3 hN3 => ?_
 refine pwp_reg fun R4 hR4 => ?_
 refine pops_to rfl fun M hM => ?_
 simp only [pop, St.eval, constSlot, upd_at, Nat.reduceEqDiff, if_true, if_false, eq_self, true_and, and_true, str_list, str_size, str_app, str_cut, str_get]
 refine hM _ _ ?_
 clear hM M
 refine pops_to rfl fun M hM => ?_
 simp only [pop, St.eval, constSlot, upd_at, Nat.reduceEqDiff, if_true, if_false, eq_self, true_and, and_true, str_list, str_size, str_app, str_cut, str_get]
 refine hM _ _ ?_
 clear hM M
 refine pops_to rfl fun M hM => ?_
 simp only [pop, St.eval, constSlot, upd_at, Nat.reduceEqDiff, if_true, if_false, popCall, List.toList_toArray, List.map_cons, List.map_nil, svs, List.mapM_cons, List.mapM_nil, Option.bind_eq_bind, Option.bind_some, Option.pure_def, List.append_nil, List.cons_append, List.nil_append, eq_self, true_and, and_true, str_list, str_size, str_app, str_cut, str_get]
 refine (indexAny_rel W0 s cs hcs hl h2 hs _).mono ?_
 rintro _ h1 ⟨z, rfl, hz, s1⟩
 refine hM _ _ ?_
 clear hM M
 refine pops_to rfl fun M hM => ?_
 simp only [pop, St.eval, constSlot, upd_at, Nat.reduceEqDiff, if_true, if_false, popBin, binK, intK, strK, eqK, eq_self, true_and, and_true, str_list, str_size, str_app, str_cut, str_get]
 refine hM _ _ ?_
 clear hM M
 refine pops_to rfl fun M hM => ?_
 simp only [pop, St.eval, constSlot, upd_at, Nat.reduceEqDiff, if_true, if_false, eq_self, true_and, and_true, str_list, str_size, str_app, str_cut, str_get]
 refine hM _ _ ?_
 clear hM M
 refine pops_done (hR4 _ ?_)
 clear hR4 R4
 try simp only [thenK, scopeK]
 refine hN3 _ ?_
 clear hN3 N3
 refine pwp_ret ?_
 simp only [thenK, blockK, scopeK, bodyK]
 refine ⟨_, rfl, endFun s1 ?_⟩
 try simp only [upd_at, Nat.reduceEqDiff, if_true, if_false]
 all_goals
  have e : decide (z ≥ 0) = s.any cs.contains := by
    rw [Bool.eq_iff_iff]
    simp only [decide_eq_true_eq, ge_iff_le, List.any_eq_true, List.contains_eq_mem, decide_eq_true_eq]
    exact hz
  rw [e]
end Go.Pw
