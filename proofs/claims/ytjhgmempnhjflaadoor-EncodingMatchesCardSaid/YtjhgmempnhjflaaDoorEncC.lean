import Derived.Test.YtjhgmempnhjflaaDoorEncB
namespace Go.Pw
open Go Go.RowKit Go.Proofs
set_option maxRecDepth 100000
set_option linter.unusedSimpArgs false
set_option linter.unusedVariables false
theorem by5 : bytesOf' Tryd.prog 5 = some 1 := by kernel_rfl
theorem ze5 : zeroOf Tryd.prog 5 = some (.int .u8 0) := by kernel_rfl
theorem shr4 (c : UInt8) : ((c.toNat : Int)).fdiv (2 ^ (min (4 : Int).toNat IntKind.u8.bits)) = ((c.toNat / 16 : Nat) : Int) := by
  have : (2 : Int) ^ (min (4 : Int).toNat IntKind.u8.bits) = 16 := by decide
  rw [this, Int.fdiv_eq_ediv_of_nonneg _ (by omega)]; omega
theorem and15 (c : UInt8) : IntKind.u8.wrap ((BitVec.ofInt IntKind.u8.bits (c.toNat : Int) &&& BitVec.ofInt IntKind.u8.bits 15).toNat : Int) = ((c.toNat % 16 : Nat) : Int) :=
  all_u8 (Q := fun c => IntKind.u8.wrap ((BitVec.ofInt IntKind.u8.bits (c.toNat : Int) &&& BitVec.ofInt IntKind.u8.bits 15).toNat : Int) = ((c.toNat % 16 : Nat) : Int)) (by decide +kernel) c
theorem hexAt (n : Nat) (h : n < 16) : ([48, 49, 50, 51, 52, 53, 54, 55, 56, 57, 65, 66, 67, 68, 69, 70] : List UInt8)[n]? = some (hexC n) := by
  have : ∀ m : Fin 16, ([48, 49, 50, 51, 52, 53, 54, 55, 56, 57, 65, 66, 67, 68, 69, 70] : List UInt8)[m.val]? = some (hexC m.val) := by decide +kernel
  exact this ⟨n, h⟩
theorem hexAt1 (c : UInt8) : ([48, 49, 50, 51, 52, 53, 54, 55, 56, 57, 65, 66, 67, 68, 69, 70] : List UInt8)[c.toNat / 16]? = some (hexC (c.toNat / 16)) := hexAt _ (by have := c.toNat_lt; omega)
theorem hexAt2 (c : UInt8) : ([48, 49, 50, 51, 52, 53, 54, 55, 56, 57, 65, 66, 67, 68, 69, 70] : List UInt8)[c.toNat % 16]? = some (hexC (c.toNat % 16)) := hexAt _ (by omega)
def escB (x : Enc) (tk : Bool) (n i : Nat) (c : UInt8) : Bool := (((c == 37 || x.forbid.contains c) || ((i : Int) == 0 && (x.head.contains c || tk))) || ((i : Int) == ((n - 1 : Nat) : Int) && x.tail.contains c))
theorem escB_ref (x : Enc) (tk : Bool) (n i : Nat) (c : UInt8) : (((c == 37 || x.forbid.contains c) || ((i : Int) == 0 && (tk || x.head.contains c))) || ((i : Int) == ((n - 1 : Nat) : Int) && x.tail.contains c)) = escB x tk n i c := by
  rw [escB, Bool.or_comm tk]
theorem escB_iff {x : Enc} {tk : Bool} {n i : Nat} {c : UInt8} (hi : i < n) : escB x tk n i c = true ↔ (c = 37 ∨ c ∈ x.forbid ∨ (i = 0 ∧ (c ∈ x.head ∨ tk = true)) ∨ (i + 1 = n ∧ c ∈ x.tail)) := by
  simp only [escB, Bool.or_eq_true, Bool.and_eq_true, beq_iff_eq, List.contains_iff_mem, or_assoc]
  have e1 : ((i : Int) = 0) ↔ i = 0 := by omega
  have e2 : ((i : Int) = ((n - 1 : Nat) : Int)) ↔ i + 1 = n := by omega
  rw [e1, e2]
theorem encAt_esc {x : Enc} {tk : Bool} {n i : Nat} {c : UInt8} (hi : i < n) (h : escB x tk n i c = true) : encAt x tk n i c = [37, hexC (c.toNat / 16), hexC (c.toNat % 16)] := by
  rw [encAt, if_pos ((escB_iff hi).1 h)]
theorem encAt_case {x : Enc} {tk : Bool} {n i : Nat} {c : UInt8} (hi : i < n) (h : escB x tk n i c = false) (h2 : x.kase = true ∧ (c = 94 ∨ (65 ≤ c.toNat ∧ c.toNat ≤ 90))) : encAt x tk n i c = [94, lowC c] := by
  rw [encAt, if_neg (by rw [← escB_iff hi, h]; simp), if_pos h2]
theorem encAt_plain {x : Enc} {tk : Bool} {n i : Nat} {c : UInt8} (hi : i < n) (h : escB x tk n i c = false) (h2 : ¬ (x.kase = true ∧ (c = 94 ∨ (65 ≤ c.toNat ∧ c.toNat ≤ 90)))) : encAt x tk n i c = [c] := by
  rw [encAt, if_neg (by rw [← escB_iff hi, h]; simp), if_neg h2]
theorem encFrom_step {x : Enc} {tk : Bool} {n i : Nat} {c : UInt8} {s out e r : List UInt8} (hx : s[i]? = some c) (he : encAt x tk n i c = e) (h : out ++ encFrom x tk n i (s.drop i) = r) : (out ++ e) ++ encFrom x tk n (i + 1) (s.drop (i + 1)) = r := by
  have e2 : s.drop i = c :: s.drop (i + 1) := by
    rw [List.drop_eq_getElem_cons (List.getElem?_eq_some_iff.1 hx).1, (List.getElem?_eq_some_iff.1 hx).2]
  rw [e2, encFrom, he] at h
  rw [List.append_assoc]; exact h
theorem encFrom_end {x : Enc} {tk : Bool} {n i : Nat} {s out r : List UInt8} (hi : ¬ (i : Int) < (s.length : Nat)) (h : out ++ encFrom x tk n i (s.drop i) = r) : out = r := by
  rw [List.drop_eq_nil_of_le (by omega), encFrom, List.append_nil] at h; exact h
theorem case_prog (k : Bool) (c : UInt8) : (k && (c == 94 || (decide ((c.toNat : Int) ≥ 65) && decide ((c.toNat : Int) ≤ 90)))) = decide (k = true ∧ (c = 94 ∨ (65 ≤ c.toNat ∧ c.toNat ≤ 90))) := by
  rw [Bool.eq_iff_iff]
  simp only [Bool.and_eq_true, Bool.or_eq_true, beq_iff_eq, decide_eq_true_eq]
  constructor <;> rintro ⟨h1, h2⟩ <;> refine ⟨h1, h2.imp id fun h => by omega⟩
theorem low_add {c : UInt8} (h : 65 ≤ c.toNat ∧ c.toNat ≤ 90) : IntKind.u8.wrap ((c.toNat : Int) + 32) = ((lowC c).toNat : Int) := by
  rw [lowC_toNat c h]; exact wrap_u8 (by omega) (by omega)
theorem nm100 : (Tryd.f100.name == "runtime.NumGoroutine") = false := by kernel_rfl
set_option maxHeartbeats 2000000 in
theorem encodeName_fun (W0 : World) (x : Enc) (s : List UInt8) (hs : s.length ≤ 1048576) (hnl : x.names.length ≤ 9223372036854775807) (hsd : SortedB x.names) :
  PFun Tryd.prog W0 100 [.agg (encPV x), .one (pstr s)] (.sv (.one (pstr (encName x s)))) := by
 intro h
 refine pcalls2 (n := 101) Tryd.func100 rfl nm100 rfl fun hb => ?_
 refine pwp_then fun N1 hN1 => ?_
 refine pwp_reg fun R2 hR2 => ?_
 refine pops_to rfl fun M hM => ?_
 simp only [pop, St.eval, constSlot, upd_at, Nat.reduceEqDiff, if_true, if_false, popBox, popBoxRo, slotCells, encPV]
 refine .inr ⟨Nat.succ_pos _, hM _ _ ?_⟩
 clear hM M
 refine pops_mv (.inr rfl) rfl (by simp only [St.eval, constSlot] <;> rfl) ?_
 refine pops_done (hR2 _ ?_)
 clear hR2 R2
 try simp only [thenK, scopeK]
 refine hN1 _ ?_
 clear hN1 N1
 refine pwp_then fun N3 hN3 => ?_
 refine pwp_reg fun R4 hR4 => ?_
 refine pops_mv (.inr rfl) rfl (by simp only [St.eval, constSlot] <;> rfl) ?_
 refine pops_done (hR4 _ ?_)
 clear hR4 R4
 try simp only [thenK, scopeK]
 refine hN3 _ ?_
 clear hN3 N3
 refine pwp_then fun N5 hN5 => ?_
 refine pwp_dreg 10 mixed (by decide +kernel) fun R6 hR6 => ?_
 simp only [List.take_succ_cons, List.take_zero, List.drop_succ_cons, List.drop_zero]
 apply lex_to
 · rfl
 ·intro h' s' M hM
  simp only [pop, St.eval, constSlot, upd_at, Nat.reduceEqDiff, if_true, if_false, popFieldAddr, fieldOf, List.drop_succ_cons, List.drop_zero, List.getElem?_toArray, List.getElem?_cons_zero, List.getElem?_cons_succ, Tryd.underlying64, sz49, encPV, s'.1]
  exact ⟨⟨_, rfl⟩, hM _ (.refl _)⟩
 apply lex_to
 · rfl
 ·intro h' s' M hM
  simp only [pop, St.eval, constSlot, upd_at, Nat.reduceEqDiff, if_true, if_false, popLoad, loadK, isAggD, List.drop_zero, List.getElem?_toArray, List.getElem?_cons_zero, List.getElem?_cons_succ, Bool.false_eq_true, Tryd.underlying49, sz49, eq_self, true_and, and_true, encPV, s'.1]
  exact hM _ (.refl _)
 apply lex_to
 · rfl
 ·intro h' s' M hM
  simp only [pop, St.eval, constSlot, upd_at, Nat.reduceEqDiff, if_true, if_false, eq_self, true_and, and_true, str_list, str_size, str_app, str_cut, str_get, encPV, s'.1]
  exact hM _ (.refl _)
 apply lex_to
 · rfl
 ·intro h' s' M hM
  simp only [pop, St.eval, constSlot, upd_at, Nat.reduceEqDiff, if_true, if_false, popCall, List.toList_toArray, List.map_cons, List.map_nil, svs, List.mapM_cons, List.mapM_nil, Option.bind_eq_bind, Option.bind_some, Option.pure_def, List.append_nil, List.cons_append, List.nil_append, str_size, encPV, s'.1]
  refine PFun.use (fold_fun W0 s (by omega)) fun hp s => hM _ s
 apply lex_to
 · rfl
 ·intro h' s' M hM
  simp only [pop, St.eval, constSlot, upd_at, Nat.reduceEqDiff, if_true, if_false, popCall, List.toList_toArray, List.map_cons, List.map_nil, svs, List.mapM_cons, List.mapM_nil, Option.bind_eq_bind, Option.bind_some, Option.pure_def, List.append_nil, List.cons_append, List.nil_append, str_size, encPV, s'.1]
  refine PFun.use (bsearch_fun W0 false x.names (s.map lowC) hnl hsd) fun hp s => hM _ s
 apply lex_to
 · rfl
 ·intro h' s' M hM
  simp only [pop, St.eval, constSlot, upd_at, Nat.reduceEqDiff, if_true, if_false, eq_self, true_and, and_true, str_list, str_size, str_app, str_cut, str_get, encPV, s'.1]
  exact hM _ (.refl _)
 apply lex_to
 · rfl
 ·intro h' s' M hM
  simp only [pop, St.eval, constSlot, upd_at, Nat.reduceEqDiff, if_true, if_false, List.getElem?_toArray, List.getElem?_cons_zero, List.getElem?_cons_succ, encPV, s'.1]
  exact hM _ (.refl _)
 apply lex_to
 · rfl
 ·intro h' s' M hM
  simp only [pop, St.eval, constSlot, upd_at, Nat.reduceEqDiff, if_true, if_false, List.getElem?_toArray, List.getElem?_cons_zero, List.getElem?_cons_succ, encPV, s'.1]
  exact hM _ (.refl _)
 apply lex_to
 · rfl
 ·intro h' s' M hM
  simp only [pop, St.eval, constSlot, upd_at, Nat.reduceEqDiff, if_true, if_false, eq_self, true_and, and_true, str_list, str_size, str_app, str_cut, str_get, encPV, s'.1]
  exact hM _ (.refl _)
 apply lex_to
 · rfl
 ·intro h' s' M hM
  simp only [pop, St.eval, constSlot, upd_at, Nat.reduceEqDiff, if_true, if_false, eq_self, true_and, and_true, str_list, str_size, str_app, str_cut, str_get, encPV, s'.1]
  exact hM _ (.refl _)
 refine lex_done fun hq sq => ?_
 skip
 refine pops_done (hR6 _ ?_)
 clear hR6 R6
 try simp only [thenK, scopeK]
 refine hN5 _ ?_
 clear hN5 N5
 refine pwp_then fun N7 hN7 => ?_
 refine pwp_then fun N8 hN8 => ?_
 refine pwp_reg fun R9 hR9 => ?_
 refine pops_mv (.inl rfl) rfl (by simp only [St.eval, upd_at, Nat.reduceEqDiff, if_true, if_false, encPV] <;> rfl) ?_
 refine pops_to rfl fun M hM => ?_
 simp only [pop, St.eval, constSlot, upd_at, Nat.reduceEqDiff, if_true, if_false, popCall, List.toList_toArray, List.map_cons, List.map_nil, popBuiltin, popLen, lenOfSlot, List.length_map, Tryd.underlying9, eq_self, true_and, and_true, str_list, str_size, str_app, str_cut, str_get, encPV]
 refine hM _ _ ?_
 clear hM M
 refine pops_mv (.inl rfl) rfl (by simp only [St.eval, constSlot] <;> rfl) ?_
 refine pops_done (hR9 _ ?_)
 clear hR9 R9
 try simp only [thenK, scopeK]
 refine hN8 _ ?_
 clear hN8 N8
 refine pwp_block ?_
 refine pwp_loop (fun k σ => ∃ (i : Nat), ∃ (sl : Slot), ∃ (out : List UInt8), (k = s.length - i) ∧ (i ≤ s.length) ∧ (out ++ encFrom x (x.names.contains (lowL s)) s.length i (s.drop i) = encName x s) ∧ (out.length ≤ 3 * i) ∧ (Keeps h σ.hp ∧ RowIs 5 1 h σ.hp sl (out.map byteCell)) ∧ (σ.env 2 = .sv (.one (.rop (encPV x)))) ∧ (σ.env 1 = .sv (.one (pstr s))) ∧ (σ.env 5 = sl) ∧ (σ.env 7 = .sv (.one (pbool (x.names.contains (lowL s))))) ∧ (σ.env 21 = .sv (.one (pint (s.length : Nat)))) ∧ (σ.env 22 = .sv (.one (pint (i : Nat))))) _ ⟨_, .refl _ _, 0, (.sv (.one (.val (.slice none 0 0)))), [], rfl, ?_⟩ ?_
 · exact ⟨Nat.zero_le _, rfl, by simp, ⟨Same.keeps sq, .nil _ _ _ _⟩, by simp only [upd_at, Nat.reduceEqDiff, if_true, if_false, encPV], by simp only [upd_at, Nat.reduceEqDiff, if_true, if_false, encPV], by simp only [upd_at, Nat.reduceEqDiff, if_true, if_false, encPV], by simp only [upd_at, Nat.reduceEqDiff, if_true, if_false]; rfl, by simp only [upd_at, Nat.reduceEqDiff, if_true, if_false, encPV], by simp only [upd_at, Nat.reduceEqDiff, if_true, if_false]; rfl⟩
 ·rintro k ⟨e, hp0⟩ ⟨i, sl, out, hk0, hx0_0, hx0_1, hx0_2, sl0, e0_2, e0_1, e0_5, e0_7, e0_21, e0_22⟩
  simp only at sl0 e0_2 e0_1 e0_5 e0_7 e0_21 e0_22
  obtain ⟨hk0, ho⟩ := sl0
  refine pwp_hpok fun hok0 => ?_
  simp only at hok0
  refine pwp_then fun N10 hN10 => ?_
  refine pwp_reg fun R11 hR11 => ?_
  refine pops_to rfl fun M hM => ?_
  simp only [pop, St.eval, constSlot, upd_at, Nat.reduceEqDiff, if_true, if_false, popBin, binK, intK, strK, eqK, eq_self, true_and, and_true, e0_2, e0_1, e0_5, e0_7, e0_21, e0_22, encPV]
  refine hM _ _ ?_
  clear hM M
  refine pops_done (hR11 _ ?_)
  clear hR11 R11
  try simp only [thenK, scopeK]
  refine hN10 _ ?_
  clear hN10 N10
  refine pwp_then fun N12 hN12 => ?_
  refine pwp_cond (by simp only [St.eval, upd_at, Nat.reduceEqDiff, if_true, if_false, e0_2, e0_1, e0_5, e0_7, e0_21, e0_22, encPV] <;> rfl) (fun c23 => ?_) (fun c23 => ?_)
  ·skip
   have hi : i < s.length := by have := of_decide_eq_true c23; omega
   obtain ⟨c, hx⟩ : ∃ c, s[i]? = some c := ⟨_, List.getElem?_eq_getElem hi⟩
   have hwl := wrap_pred (n := s.length) (by omega) (by omega)
   refine pwp_skip ?_
   try simp only [thenK, scopeK]
   refine hN12 _ ?_
   clear hN12 N12
   refine pwp_then fun N13 hN13 => ?_
   refine pwp_block ?_
   refine pwp_then fun N14 hN14 => ?_
   refine pwp_reg fun R15 hR15 => ?_
   refine pops_mv (.inl rfl) rfl (by simp only [St.eval, upd_at, Nat.reduceEqDiff, if_true, if_false, e0_2, e0_1, e0_5, e0_7, e0_21, e0_22, encPV] <;> rfl) ?_
   refine pops_mv (.inr rfl) rfl (by simp only [St.eval, upd_at, Nat.reduceEqDiff, if_true, if_false, e0_2, e0_1, e0_5, e0_7, e0_21, e0_22, encPV] <;> rfl) ?_
   refine pops_done (hR15 _ ?_)
   clear hR15 R15
   try simp only [thenK, scopeK]
   refine hN14 _ ?_
   clear hN14 N14
   refine pwp_then fun N16 hN16 => ?_
   refine pwp_reg fun R17 hR17 => ?_
   refine pops_mv (.inl rfl) rfl (by simp only [St.eval, upd_at, Nat.reduceEqDiff, if_true, if_false, e0_2, e0_1, e0_5, e0_7, e0_21, e0_22, encPV] <;> rfl) ?_
   refine pops_mv (.inl rfl) rfl (by simp only [St.eval, upd_at, Nat.reduceEqDiff, if_true, if_false, e0_2, e0_1, e0_5, e0_7, e0_21, e0_22, encPV] <;> rfl) ?_
   refine pops_to rfl fun M hM => ?_
   simp only [pop, St.eval, constSlot, upd_at, Nat.reduceEqDiff, if_true, if_false, popIndex, partK, Tryd.underlying9, eq_self, true_and, and_true, str_list, str_size, str_app, str_cut, str_get, e0_2, e0_1, e0_5, e0_7, e0_21, e0_22, encPV, hx, Int.toNat_natCast]
   refine ⟨Int.natCast_nonneg _, hM _ _ ?_⟩
   clear hM M
   refine pops_mv (.inr rfl) rfl (by simp only [St.eval, upd_at, Nat.reduceEqDiff, if_true, if_false, e0_2, e0_1, e0_5, e0_7, e0_21, e0_22, encPV] <;> rfl) ?_
   refine pops_done (hR17 _ ?_)
   clear hR17 R17
   try simp only [thenK, scopeK]
   refine hN16 _ ?_
   clear hN16 N16
   refine pwp_then fun N18 hN18 => ?_
   refine pwp_reg fun R19 hR19 => ?_
   refine pops_mv (.inl rfl) rfl (by simp only [St.eval, upd_at, Nat.reduceEqDiff, if_true, if_false, e0_2, e0_1, e0_5, e0_7, e0_21, e0_22, encPV] <;> rfl) ?_
   refine pops_to rfl fun M hM => ?_
   simp only [pop, St.eval, constSlot, upd_at, Nat.reduceEqDiff, if_true, if_false, popBin, binK, intK, strK, eqK, Tryd.underlying3, isPtr, eq_self, true_and, and_true, e0_2, e0_1, e0_5, e0_7, e0_21, e0_22, encPV]
   refine hM _ _ ?_
   clear hM M
   refine pops_mv (.inl rfl) rfl (by simp only [St.eval, upd_at, Nat.reduceEqDiff, if_true, if_false, e0_2, e0_1, e0_5, e0_7, e0_21, e0_22, encPV] <;> rfl) ?_
   apply pops_and 8 30 38 [31, 32, 33, 34, 35, 36, 37] (by simp only [upd_at, Nat.reduceEqDiff, if_true, if_false, e0_2, e0_1, e0_5, e0_7, e0_21, e0_22, encPV] <;> rfl)
   ·skip
    intro g30_0 J20 hJ20
    simp only [List.take_succ_cons, List.take_zero]
    simp only [anyAt_cons, anyAt_nil] at hJ20
    refine pops_do rfl rfl (by simp only [upd_at, Nat.reduceEqDiff, if_true, if_false, e0_2, e0_1, e0_5, e0_7, e0_21, e0_22, encPV, g30_0]) fun M hM => ?_
    simp only [pop, St.eval, constSlot, upd_at, Nat.reduceEqDiff, if_true, if_false, popFieldAddr, fieldOf, List.drop_succ_cons, List.drop_zero, List.getElem?_toArray, List.getElem?_cons_zero, List.getElem?_cons_succ, Tryd.underlying64, sz9, e0_2, e0_1, e0_5, e0_7, e0_21, e0_22, encPV, g30_0]
    refine ⟨⟨_, rfl⟩, hM _ _ ?_⟩
    clear hM M
    refine pops_do rfl rfl (by simp only [upd_at, Nat.reduceEqDiff, if_true, if_false, e0_2, e0_1, e0_5, e0_7, e0_21, e0_22, encPV, g30_0]) fun M hM => ?_
    simp only [pop, St.eval, constSlot, upd_at, Nat.reduceEqDiff, if_true, if_false, popLoad, loadK, isAggD, List.drop_zero, List.getElem?_toArray, List.getElem?_cons_zero, List.getElem?_cons_succ, Bool.false_eq_true, Tryd.underlying9, sz9, eq_self, true_and, and_true, e0_2, e0_1, e0_5, e0_7, e0_21, e0_22, encPV, g30_0]
    refine hM _ _ ?_
    clear hM M
    refine pops_mvg (.inl rfl) rfl rfl (by simp only [upd_at, Nat.reduceEqDiff, if_true, if_false, e0_2, e0_1, e0_5, e0_7, e0_21, e0_22, encPV, g30_0]) (by simp only [St.eval, upd_at, Nat.reduceEqDiff, if_true, if_false, e0_2, e0_1, e0_5, e0_7, e0_21, e0_22, encPV, g30_0] <;> rfl) ?_
    refine pops_do rfl rfl (by simp only [upd_at, Nat.reduceEqDiff, if_true, if_false, e0_2, e0_1, e0_5, e0_7, e0_21, e0_22, encPV, g30_0]) fun M hM => ?_
    simp only [pop, St.eval, constSlot, upd_at, Nat.reduceEqDiff, if_true, if_false, popCall, List.toList_toArray, List.map_cons, List.map_nil, svs, List.mapM_cons, List.mapM_nil, Option.bind_eq_bind, Option.bind_some, Option.pure_def, List.append_nil, List.cons_append, List.nil_append, str_size, e0_2, e0_1, e0_5, e0_7, e0_21, e0_22, encPV, g30_0]
    refine PFun.use (hasByte_fun W0 x.head c) fun h1 s1 => hM _ _ ?_
    replace s1 := Same.trans (Same.refl _) s1
    clear hM M
    refine pops_mvg (.inl rfl) rfl rfl (by simp only [upd_at, Nat.reduceEqDiff, if_true, if_false, e0_2, e0_1, e0_5, e0_7, e0_21, e0_22, encPV, g30_0]) (by simp only [St.eval, upd_at, Nat.reduceEqDiff, if_true, if_false, e0_2, e0_1, e0_5, e0_7, e0_21, e0_22, encPV, g30_0] <;> rfl) ?_
    apply pops_or0 2 35 37 [36] (by simp only [upd_at, Nat.reduceEqDiff, if_true, if_false, e0_2, e0_1, e0_5, e0_7, e0_21, e0_22, encPV, g30_0] <;> rfl)
    ·skip
     intro g35_1 J21 hJ21
     simp only [List.take_succ_cons, List.take_zero]
     simp only [anyAt_cons, anyAt_nil] at hJ21
     refine pops_mvg (.inl rfl) rfl rfl (by simp only [upd_at, Nat.reduceEqDiff, if_true, if_false, e0_2, e0_1, e0_5, e0_7, e0_21, e0_22, encPV, g30_0, g35_1]) (by simp only [St.eval, upd_at, Nat.reduceEqDiff, if_true, if_false, e0_2, e0_1, e0_5, e0_7, e0_21, e0_22, encPV, g30_0, g35_1] <;> rfl) ?_
     refine pops_do rfl rfl (by simp only [upd_at, Nat.reduceEqDiff, if_true, if_false, e0_2, e0_1, e0_5, e0_7, e0_21, e0_22, encPV, g30_0, g35_1]) fun M hM => ?_
     simp only [pop, St.eval, constSlot, upd_at, Nat.reduceEqDiff, if_true, if_false, popIf, true_implies, false_implies, Bool.true_eq_false, Bool.false_eq_true, reduceCtorEq, true_and, and_true, e0_2, e0_1, e0_5, e0_7, e0_21, e0_22, encPV, g30_0, g35_1]
     refine hM _ _ ?_
     clear hM M
     exact pops_done (hJ21 _ (wk_same (wk_any (Wk.refl _ _))))
    ·skip
     intro g35_1 J21 hJ21
     simp only [List.take_succ_cons, List.take_zero]
     simp only [anyAt_cons, anyAt_nil] at hJ21
     refine pops_off (b := true) rfl rfl (by simp only [upd_at, Nat.reduceEqDiff, if_true, if_false, e0_2, e0_1, e0_5, e0_7, e0_21, e0_22, encPV, g30_0, g35_1]) (by decide) ?_
     refine pops_do rfl rfl (by simp only [upd_at, Nat.reduceEqDiff, if_true, if_false, e0_2, e0_1, e0_5, e0_7, e0_21, e0_22, encPV, g30_0, g35_1]) fun M hM => ?_
     simp only [pop, St.eval, constSlot, upd_at, Nat.reduceEqDiff, if_true, if_false, popIf, true_implies, false_implies, Bool.true_eq_false, Bool.false_eq_true, reduceCtorEq, true_and, and_true, e0_2, e0_1, e0_5, e0_7, e0_21, e0_22, encPV, g30_0, g35_1]
     refine hM _ _ ?_
     clear hM M
     exact pops_done (hJ21 _ (wk_same (wk_any (Wk.refl _ _))))
    simp only [List.drop_succ_cons, List.drop_zero, anyAt_cons, anyAt_nil]
    refine pops_to rfl fun M hM => ?_
    simp only [pop, St.eval, constSlot, upd_at, Nat.reduceEqDiff, if_true, if_false, popIf, true_implies, false_implies, Bool.true_eq_false, Bool.false_eq_true, reduceCtorEq, true_and, and_true, e0_2, e0_1, e0_5, e0_7, e0_21, e0_22, encPV, g30_0]
    refine hM _ _ ?_
    clear hM M
    exact pops_done (hJ20 _ _ s1 (wk_same (wk_any ((wk_any ((wk_any ((wk_any ((wk_any ((wk_any ((wk_any (Wk.refl _ _))))))))))))))))
   ·skip
    intro g30_0 J20 hJ20
    simp only [List.take_succ_cons, List.take_zero]
    simp only [anyAt_cons, anyAt_nil] at hJ20
    refine pops_off (b := false) rfl rfl (by simp only [upd_at, Nat.reduceEqDiff, if_true, if_false, e0_2, e0_1, e0_5, e0_7, e0_21, e0_22, encPV, g30_0]) (by decide) ?_
    refine pops_off (b := false) rfl rfl (by simp only [upd_at, Nat.reduceEqDiff, if_true, if_false, e0_2, e0_1, e0_5, e0_7, e0_21, e0_22, encPV, g30_0]) (by decide) ?_
    refine pops_off (b := false) rfl rfl (by simp only [upd_at, Nat.reduceEqDiff, if_true, if_false, e0_2, e0_1, e0_5, e0_7, e0_21, e0_22, encPV, g30_0]) (by decide) ?_
    refine pops_off (b := false) rfl rfl (by simp only [upd_at, Nat.reduceEqDiff, if_true, if_false, e0_2, e0_1, e0_5, e0_7, e0_21, e0_22, encPV, g30_0]) (by decide) ?_
    refine pops_off (b := false) rfl rfl (by simp only [upd_at, Nat.reduceEqDiff, if_true, if_false, e0_2, e0_1, e0_5, e0_7, e0_21, e0_22, encPV, g30_0]) (by decide) ?_
    refine pops_off0 rfl rfl (by simp only [upd_at, Nat.reduceEqDiff, if_true, if_false, e0_2, e0_1, e0_5, e0_7, e0_21, e0_22, encPV, g30_0]) ?_
    refine pops_off (b := false) rfl rfl (by simp only [upd_at, Nat.reduceEqDiff, if_true, if_false, e0_2, e0_1, e0_5, e0_7, e0_21, e0_22, encPV, g30_0]) (by decide) ?_
    refine pops_to rfl fun M hM => ?_
    simp only [pop, St.eval, constSlot, upd_at, Nat.reduceEqDiff, if_true, if_false, popIf, true_implies, false_implies, Bool.true_eq_false, Bool.false_eq_true, reduceCtorEq, true_and, and_true, e0_2, e0_1, e0_5, e0_7, e0_21, e0_22, encPV, g30_0]
    refine hM _ _ ?_
    clear hM M
    exact pops_done (hJ20 _ _ (Same.refl _) (wk_same (wk_any ((wk_any ((wk_any ((wk_any ((wk_any ((wk_any ((wk_any (Wk.refl _ _))))))))))))))))
   simp only [List.drop_succ_cons, List.drop_zero, anyAt_cons, anyAt_nil]
   intro hj20 sj20
   refine pops_mv (.inr rfl) rfl (by simp only [St.eval, upd_at, Nat.reduceEqDiff, if_true, if_false, e0_2, e0_1, e0_5, e0_7, e0_21, e0_22, encPV] <;> rfl) ?_
   refine pops_done (hR19 _ ?_)
   clear hR19 R19
   try simp only [thenK, scopeK]
   refine hN18 _ ?_
   clear hN18 N18
   refine pwp_then fun N22 hN22 => ?_
   refine pwp_reg fun R23 hR23 => ?_
   refine pops_mv (.inl rfl) rfl (by simp only [St.eval, upd_at, Nat.reduceEqDiff, if_true, if_false, e0_2, e0_1, e0_5, e0_7, e0_21, e0_22, encPV] <;> rfl) ?_
   refine pops_mv (.inl rfl) rfl (by simp only [St.eval, upd_at, Nat.reduceEqDiff, if_true, if_false, e0_2, e0_1, e0_5, e0_7, e0_21, e0_22, encPV] <;> rfl) ?_
   refine pops_to rfl fun M hM => ?_
   simp only [pop, St.eval, constSlot, upd_at, Nat.reduceEqDiff, if_true, if_false, popCall, List.toList_toArray, List.map_cons, List.map_nil, popBuiltin, popLen, lenOfSlot, List.length_map, Tryd.underlying9, eq_self, true_and, and_true, str_list, str_size, str_app, str_cut, str_get, e0_2, e0_1, e0_5, e0_7, e0_21, e0_22, encPV]
   refine hM _ _ ?_
   clear hM M
   refine pops_to rfl fun M hM => ?_
   simp only [pop, St.eval, constSlot, upd_at, Nat.reduceEqDiff, if_true, if_false, popBin, binK, intK, strK, eqK, eq_self, true_and, and_true, e0_2, e0_1, e0_5, e0_7, e0_21, e0_22, encPV, hwl]
   refine hM _ _ ?_
   clear hM M
   refine pops_to rfl fun M hM => ?_
   simp only [pop, St.eval, constSlot, upd_at, Nat.reduceEqDiff, if_true, if_false, popBin, binK, intK, strK, eqK, Tryd.underlying3, isPtr, eq_self, true_and, and_true, e0_2, e0_1, e0_5, e0_7, e0_21, e0_22, encPV]
   refine hM _ _ ?_
   clear hM M
   refine pops_mv (.inl rfl) rfl (by simp only [St.eval, upd_at, Nat.reduceEqDiff, if_true, if_false, e0_2, e0_1, e0_5, e0_7, e0_21, e0_22, encPV] <;> rfl) ?_
   apply pops_and 5 44 49 [45, 46, 47, 48] (by simp only [upd_at, Nat.reduceEqDiff, if_true, if_false, e0_2, e0_1, e0_5, e0_7, e0_21, e0_22, encPV] <;> rfl)
   ·skip
    intro g44_0 J24 hJ24
    simp only [List.take_succ_cons, List.take_zero]
    simp only [anyAt_cons, anyAt_nil] at hJ24
    refine pops_do rfl rfl (by simp only [upd_at, Nat.reduceEqDiff, if_true, if_false, e0_2, e0_1, e0_5, e0_7, e0_21, e0_22, encPV, g44_0]) fun M hM => ?_
    simp only [pop, St.eval, constSlot, upd_at, Nat.reduceEqDiff, if_true, if_false, popFieldAddr, fieldOf, List.drop_succ_cons, List.drop_zero, List.getElem?_toArray, List.getElem?_cons_zero, List.getElem?_cons_succ, Tryd.underlying64, sz9, e0_2, e0_1, e0_5, e0_7, e0_21, e0_22, encPV, g44_0]
    refine ⟨⟨_, rfl⟩, hM _ _ ?_⟩
    clear hM M
    refine pops_do rfl rfl (by simp only [upd_at, Nat.reduceEqDiff, if_true, if_false, e0_2, e0_1, e0_5, e0_7, e0_21, e0_22, encPV, g44_0]) fun M hM => ?_
    simp only [pop, St.eval, constSlot, upd_at, Nat.reduceEqDiff, if_true, if_false, popLoad, loadK, isAggD, List.drop_zero, List.getElem?_toArray, List.getElem?_cons_zero, List.getElem?_cons_succ, Bool.false_eq_true, Tryd.underlying9, sz9, eq_self, true_and, and_true, e0_2, e0_1, e0_5, e0_7, e0_21, e0_22, encPV, g44_0]
    refine hM _ _ ?_
    clear hM M
    refine pops_mvg (.inl rfl) rfl rfl (by simp only [upd_at, Nat.reduceEqDiff, if_true, if_false, e0_2, e0_1, e0_5, e0_7, e0_21, e0_22, encPV, g44_0]) (by simp only [St.eval, upd_at, Nat.reduceEqDiff, if_true, if_false, e0_2, e0_1, e0_5, e0_7, e0_21, e0_22, encPV, g44_0] <;> rfl) ?_
    refine pops_do rfl rfl (by simp only [upd_at, Nat.reduceEqDiff, if_true, if_false, e0_2, e0_1, e0_5, e0_7, e0_21, e0_22, encPV, g44_0]) fun M hM => ?_
    simp only [pop, St.eval, constSlot, upd_at, Nat.reduceEqDiff, if_true, if_false, popCall, List.toList_toArray, List.map_cons, List.map_nil, svs, List.mapM_cons, List.mapM_nil, Option.bind_eq_bind, Option.bind_some, Option.pure_def, List.append_nil, List.cons_append, List.nil_append, str_size, e0_2, e0_1, e0_5, e0_7, e0_21, e0_22, encPV, g44_0]
    refine PFun.use (hasByte_fun W0 x.tail c) fun h2 s2 => hM _ _ ?_
    replace s2 := Same.trans (Same.refl _) s2
    clear hM M
    refine pops_to rfl fun M hM => ?_
    simp only [pop, St.eval, constSlot, upd_at, Nat.reduceEqDiff, if_true, if_false, popIf, true_implies, false_implies, Bool.true_eq_false, Bool.false_eq_true, reduceCtorEq, true_and, and_true, e0_2, e0_1, e0_5, e0_7, e0_21, e0_22, encPV, g44_0]
    refine hM _ _ ?_
    clear hM M
    exact pops_done (hJ24 _ _ s2 (wk_same (wk_any ((wk_any ((wk_any ((wk_any (Wk.refl _ _))))))))))
   ·skip
    intro g44_0 J24 hJ24
    simp only [List.take_succ_cons, List.take_zero]
    simp only [anyAt_cons, anyAt_nil] at hJ24
    refine pops_off (b := false) rfl rfl (by simp only [upd_at, Nat.reduceEqDiff, if_true, if_false, e0_2, e0_1, e0_5, e0_7, e0_21, e0_22, encPV, g44_0]) (by decide) ?_
    refine pops_off (b := false) rfl rfl (by simp only [upd_at, Nat.reduceEqDiff, if_true, if_false, e0_2, e0_1, e0_5, e0_7, e0_21, e0_22, encPV, g44_0]) (by decide) ?_
    refine pops_off (b := false) rfl rfl (by simp only [upd_at, Nat.reduceEqDiff, if_true, if_false, e0_2, e0_1, e0_5, e0_7, e0_21, e0_22, encPV, g44_0]) (by decide) ?_
    refine pops_off (b := false) rfl rfl (by simp only [upd_at, Nat.reduceEqDiff, if_true, if_false, e0_2, e0_1, e0_5, e0_7, e0_21, e0_22, encPV, g44_0]) (by decide) ?_
    refine pops_to rfl fun M hM => ?_
    simp only [pop, St.eval, constSlot, upd_at, Nat.reduceEqDiff, if_true, if_false, popIf, true_implies, false_implies, Bool.true_eq_false, Bool.false_eq_true, reduceCtorEq, true_and, and_true, e0_2, e0_1, e0_5, e0_7, e0_21, e0_22, encPV, g44_0]
    refine hM _ _ ?_
    clear hM M
    exact pops_done (hJ24 _ _ (Same.refl _) (wk_same (wk_any ((wk_any ((wk_any ((wk_any (Wk.refl _ _))))))))))
   simp only [List.drop_succ_cons, List.drop_zero, anyAt_cons, anyAt_nil]
   intro hj24 sj24
   replace sj24 := Same.trans sj20 sj24
   refine pops_mv (.inr rfl) rfl (by simp only [St.eval, upd_at, Nat.reduceEqDiff, if_true, if_false, e0_2, e0_1, e0_5, e0_7, e0_21, e0_22, encPV] <;> rfl) ?_
   refine pops_done (hR23 _ ?_)
   clear hR23 R23
   try simp only [thenK, scopeK]
   refine hN22 _ ?_
   clear hN22 N22
   refine pwp_block ?_
   refine pwp_then fun N25 hN25 => ?_
   refine pwp_reg fun R26 hR26 => ?_
   refine pops_mv (.inl rfl) rfl (by simp only [St.eval, upd_at, Nat.reduceEqDiff, if_true, if_false, e0_2, e0_1, e0_5, e0_7, e0_21, e0_22, encPV] <;> rfl) ?_
   refine pops_to rfl fun M hM => ?_
   simp only [pop, St.eval, constSlot, upd_at, Nat.reduceEqDiff, if_true, if_false, popBin, binK, intK, strK, eqK, Tryd.underlying5, isPtr, eq_self, true_and, and_true, e0_2, e0_1, e0_5, e0_7, e0_21, e0_22, encPV]
   refine hM _ _ ?_
   clear hM M
   refine pops_mv (.inl rfl) rfl (by simp only [St.eval, upd_at, Nat.reduceEqDiff, if_true, if_false, e0_2, e0_1, e0_5, e0_7, e0_21, e0_22, encPV] <;> rfl) ?_
   apply pops_or 5 57 62 [58, 59, 60, 61] (by simp only [upd_at, Nat.reduceEqDiff, if_true, if_false, e0_2, e0_1, e0_5, e0_7, e0_21, e0_22, encPV] <;> rfl)
   ·skip
    intro g57_0 J27 hJ27
    simp only [List.take_succ_cons, List.take_zero]
    simp only [anyAt_cons, anyAt_nil] at hJ27
    refine pops_do rfl rfl (by simp only [upd_at, Nat.reduceEqDiff, if_true, if_false, e0_2, e0_1, e0_5, e0_7, e0_21, e0_22, encPV, g57_0]) fun M hM => ?_
    simp only [pop, St.eval, constSlot, upd_at, Nat.reduceEqDiff, if_true, if_false, popFieldAddr, fieldOf, List.drop_succ_cons, List.drop_zero, List.getElem?_toArray, List.getElem?_cons_zero, List.getElem?_cons_succ, Tryd.underlying64, sz9, e0_2, e0_1, e0_5, e0_7, e0_21, e0_22, encPV, g57_0]
    refine ⟨⟨_, rfl⟩, hM _ _ ?_⟩
    clear hM M
    refine pops_do rfl rfl (by simp only [upd_at, Nat.reduceEqDiff, if_true, if_false, e0_2, e0_1, e0_5, e0_7, e0_21, e0_22, encPV, g57_0]) fun M hM => ?_
    simp only [pop, St.eval, constSlot, upd_at, Nat.reduceEqDiff, if_true, if_false, popLoad, loadK, isAggD, List.drop_zero, List.getElem?_toArray, List.getElem?_cons_zero, List.getElem?_cons_succ, Bool.false_eq_true, Tryd.underlying9, sz9, eq_self, true_and, and_true, e0_2, e0_1, e0_5, e0_7, e0_21, e0_22, encPV, g57_0]
    refine hM _ _ ?_
    clear hM M
    refine pops_mvg (.inl rfl) rfl rfl (by simp only [upd_at, Nat.reduceEqDiff, if_true, if_false, e0_2, e0_1, e0_5, e0_7, e0_21, e0_22, encPV, g57_0]) (by simp only [St.eval, upd_at, Nat.reduceEqDiff, if_true, if_false, e0_2, e0_1, e0_5, e0_7, e0_21, e0_22, encPV, g57_0] <;> rfl) ?_
    refine pops_do rfl rfl (by simp only [upd_at, Nat.reduceEqDiff, if_true, if_false, e0_2, e0_1, e0_5, e0_7, e0_21, e0_22, encPV, g57_0]) fun M hM => ?_
    simp only [pop, St.eval, constSlot, upd_at, Nat.reduceEqDiff, if_true, if_false, popCall, List.toList_toArray, List.map_cons, List.map_nil, svs, List.mapM_cons, List.mapM_nil, Option.bind_eq_bind, Option.bind_some, Option.pure_def, List.append_nil, List.cons_append, List.nil_append, str_size, e0_2, e0_1, e0_5, e0_7, e0_21, e0_22, encPV, g57_0]
    refine PFun.use (hasByte_fun W0 x.forbid c) fun h3 s3 => hM _ _ ?_
    replace s3 := Same.trans (Same.refl _) s3
    clear hM M
    refine pops_to rfl fun M hM => ?_
    simp only [pop, St.eval, constSlot, upd_at, Nat.reduceEqDiff, if_true, if_false, popIf, true_implies, false_implies, Bool.true_eq_false, Bool.false_eq_true, reduceCtorEq, true_and, and_true, e0_2, e0_1, e0_5, e0_7, e0_21, e0_22, encPV, g57_0]
    refine hM _ _ ?_
    clear hM M
    exact pops_done (hJ27 _ _ s3 (wk_same (wk_any ((wk_any ((wk_any ((wk_any (Wk.refl _ _))))))))))
   ·skip
    intro g57_0 J27 hJ27
    simp only [List.take_succ_cons, List.take_zero]
    simp only [anyAt_cons, anyAt_nil] at hJ27
    refine pops_off (b := true) rfl rfl (by simp only [upd_at, Nat.reduceEqDiff, if_true, if_false, e0_2, e0_1, e0_5, e0_7, e0_21, e0_22, encPV, g57_0]) (by decide) ?_
    refine pops_off (b := true) rfl rfl (by simp only [upd_at, Nat.reduceEqDiff, if_true, if_false, e0_2, e0_1, e0_5, e0_7, e0_21, e0_22, encPV, g57_0]) (by decide) ?_
    refine pops_off (b := true) rfl rfl (by simp only [upd_at, Nat.reduceEqDiff, if_true, if_false, e0_2, e0_1, e0_5, e0_7, e0_21, e0_22, encPV, g57_0]) (by decide) ?_
    refine pops_off (b := true) rfl rfl (by simp only [upd_at, Nat.reduceEqDiff, if_true, if_false, e0_2, e0_1, e0_5, e0_7, e0_21, e0_22, encPV, g57_0]) (by decide) ?_
    refine pops_to rfl fun M hM => ?_
    simp only [pop, St.eval, constSlot, upd_at, Nat.reduceEqDiff, if_true, if_false, popIf, true_implies, false_implies, Bool.true_eq_false, Bool.false_eq_true, reduceCtorEq, true_and, and_true, e0_2, e0_1, e0_5, e0_7, e0_21, e0_22, encPV, g57_0]
    refine hM _ _ ?_
    clear hM M
    exact pops_done (hJ27 _ _ (Same.refl _) (wk_same (wk_any ((wk_any ((wk_any ((wk_any (Wk.refl _ _))))))))))
   simp only [List.drop_succ_cons, List.drop_zero, anyAt_cons, anyAt_nil]
   intro hj27 sj27
   replace sj27 := Same.trans sj24 sj27
   refine pops_mv (.inl rfl) rfl (by simp only [St.eval, upd_at, Nat.reduceEqDiff, if_true, if_false, e0_2, e0_1, e0_5, e0_7, e0_21, e0_22, encPV] <;> rfl) ?_
   apply pops_or0 2 63 65 [64] (by simp only [upd_at, Nat.reduceEqDiff, if_true, if_false, e0_2, e0_1, e0_5, e0_7, e0_21, e0_22, encPV] <;> rfl)
   ·skip
    intro g63_0 J28 hJ28
    simp only [List.take_succ_cons, List.take_zero]
    simp only [anyAt_cons, anyAt_nil] at hJ28
    refine pops_mvg (.inl rfl) rfl rfl (by simp only [upd_at, Nat.reduceEqDiff, if_true, if_false, e0_2, e0_1, e0_5, e0_7, e0_21, e0_22, encPV, g63_0]) (by simp only [St.eval, upd_at, Nat.reduceEqDiff, if_true, if_false, e0_2, e0_1, e0_5, e0_7, e0_21, e0_22, encPV, g63_0] <;> rfl) ?_
    refine pops_to rfl fun M hM => ?_
    simp only [pop, St.eval, constSlot, upd_at, Nat.reduceEqDiff, if_true, if_false, popIf, true_implies, false_implies, Bool.true_eq_false, Bool.false_eq_true, reduceCtorEq, true_and, and_true, e0_2, e0_1, e0_5, e0_7, e0_21, e0_22, encPV, g63_0]
    refine hM _ _ ?_
    clear hM M
    exact pops_done (hJ28 _ (wk_same (wk_any (Wk.refl _ _))))
   ·skip
    intro g63_0 J28 hJ28
    simp only [List.take_succ_cons, List.take_zero]
    simp only [anyAt_cons, anyAt_nil] at hJ28
    refine pops_off (b := true) rfl rfl (by simp only [upd_at, Nat.reduceEqDiff, if_true, if_false, e0_2, e0_1, e0_5, e0_7, e0_21, e0_22, encPV, g63_0]) (by decide) ?_
    refine pops_to rfl fun M hM => ?_
    simp only [pop, St.eval, constSlot, upd_at, Nat.reduceEqDiff, if_true, if_false, popIf, true_implies, false_implies, Bool.true_eq_false, Bool.false_eq_true, reduceCtorEq, true_and, and_true, e0_2, e0_1, e0_5, e0_7, e0_21, e0_22, encPV, g63_0]
    refine hM _ _ ?_
    clear hM M
    exact pops_done (hJ28 _ (wk_same (wk_any (Wk.refl _ _))))
   simp only [List.drop_succ_cons, List.drop_zero, anyAt_cons, anyAt_nil]
   refine pops_mv (.inl rfl) rfl (by simp only [St.eval, upd_at, Nat.reduceEqDiff, if_true, if_false, e0_2, e0_1, e0_5, e0_7, e0_21, e0_22, encPV] <;> rfl) ?_
   apply pops_or0 2 66 68 [67] (by simp only [upd_at, Nat.reduceEqDiff, if_true, if_false, e0_2, e0_1, e0_5, e0_7, e0_21, e0_22, encPV] <;> rfl)
   ·skip
    intro g66_0 J29 hJ29
    simp only [List.take_succ_cons, List.take_zero]
    simp only [anyAt_cons, anyAt_nil] at hJ29
    refine pops_mvg (.inl rfl) rfl rfl (by simp only [upd_at, Nat.reduceEqDiff, if_true, if_false, e0_2, e0_1, e0_5, e0_7, e0_21, e0_22, encPV, g66_0]) (by simp only [St.eval, upd_at, Nat.reduceEqDiff, if_true, if_false, e0_2, e0_1, e0_5, e0_7, e0_21, e0_22, encPV, g66_0] <;> rfl) ?_
    refine pops_to rfl fun M hM => ?_
    simp only [pop, St.eval, constSlot, upd_at, Nat.reduceEqDiff, if_true, if_false, popIf, true_implies, false_implies, Bool.true_eq_false, Bool.false_eq_true, reduceCtorEq, true_and, and_true, e0_2, e0_1, e0_5, e0_7, e0_21, e0_22, encPV, g66_0]
    refine hM _ _ ?_
    clear hM M
    exact pops_done (hJ29 _ (wk_same (wk_any (Wk.refl _ _))))
   ·skip
    intro g66_0 J29 hJ29
    simp only [List.take_succ_cons, List.take_zero]
    simp only [anyAt_cons, anyAt_nil] at hJ29
    refine pops_off (b := true) rfl rfl (by simp only [upd_at, Nat.reduceEqDiff, if_true, if_false, e0_2, e0_1, e0_5, e0_7, e0_21, e0_22, encPV, g66_0]) (by decide) ?_
    refine pops_to rfl fun M hM => ?_
    simp only [pop, St.eval, constSlot, upd_at, Nat.reduceEqDiff, if_true, if_false, popIf, true_implies, false_implies, Bool.true_eq_false, Bool.false_eq_true, reduceCtorEq, true_and, and_true, e0_2, e0_1, e0_5, e0_7, e0_21, e0_22, encPV, g66_0]
    refine hM _ _ ?_
    clear hM M
    exact pops_done (hJ29 _ (wk_same (wk_any (Wk.refl _ _))))
   simp only [List.drop_succ_cons, List.drop_zero, anyAt_cons, anyAt_nil]
   refine pops_mv (.inr rfl) rfl (by simp only [St.eval, upd_at, Nat.reduceEqDiff, if_true, if_false, e0_2, e0_1, e0_5, e0_7, e0_21, e0_22, encPV] <;> rfl) ?_
   refine pops_done (hR26 _ ?_)
   clear hR26 R26
   try simp only [thenK, scopeK]
   refine hN25 _ ?_
   clear hN25 N25
   refine pwp_cond (by simp only [St.eval, upd_at, Nat.reduceEqDiff, if_true, if_false, e0_2, e0_1, e0_5, e0_7, e0_21, e0_22, encPV] <;> rfl) (fun c54 => ?_) (fun c54 => ?_)
   ·skip
    rw [u8_37, ← escB] at c54
    have he := encAt_esc hi c54
    refine pwp_dreg 8 mixed (by decide +kernel) fun R30 hR30 => ?_
    simp only [List.take_succ_cons, List.take_zero, List.drop_succ_cons, List.drop_zero]
    apply lex_to
    · rfl
    ·intro h' s' M hM
     simp only [pop, St.eval, constSlot, upd_at, Nat.reduceEqDiff, if_true, if_false, eq_self, true_and, and_true, str_list, str_size, str_app, str_cut, str_get, e0_2, e0_1, e0_5, e0_7, e0_21, e0_22, encPV, s'.1]
     exact hM _ (.refl _)
    apply lex_to
    · rfl
    ·intro h' s' M hM
     simp only [pop, St.eval, constSlot, upd_at, Nat.reduceEqDiff, if_true, if_false, eq_self, true_and, and_true, str_list, str_size, str_app, str_cut, str_get, e0_2, e0_1, e0_5, e0_7, e0_21, e0_22, encPV, s'.1]
     exact hM _ (.refl _)
    apply lex_to
    · rfl
    ·intro h' s' M hM
     simp only [pop, St.eval, constSlot, upd_at, Nat.reduceEqDiff, if_true, if_false, popBin, binK, intK, strK, eqK, eq_self, true_and, and_true, e0_2, e0_1, e0_5, e0_7, e0_21, e0_22, encPV, shr4, s'.1]
     refine ⟨by decide, ?_⟩
     exact hM _ (.refl _)
    apply lex_to
    · rfl
    ·intro h' s' M hM
     simp only [pop, St.eval, constSlot, upd_at, Nat.reduceEqDiff, if_true, if_false, popIndex, partK, Tryd.underlying9, eq_self, true_and, and_true, str_list, str_size, str_app, str_cut, str_get, e0_2, e0_1, e0_5, e0_7, e0_21, e0_22, encPV, hexAt1, Int.toNat_natCast, s'.1]
     refine ⟨Int.natCast_nonneg _, ?_⟩
     exact hM _ (.refl _)
    apply lex_to
    · rfl
    ·intro h' s' M hM
     simp only [pop, St.eval, constSlot, upd_at, Nat.reduceEqDiff, if_true, if_false, eq_self, true_and, and_true, str_list, str_size, str_app, str_cut, str_get, e0_2, e0_1, e0_5, e0_7, e0_21, e0_22, encPV, s'.1]
     exact hM _ (.refl _)
    apply lex_to
    · rfl
    ·intro h' s' M hM
     simp only [pop, St.eval, constSlot, upd_at, Nat.reduceEqDiff, if_true, if_false, popBin, binK, intK, strK, eqK, eq_self, true_and, and_true, e0_2, e0_1, e0_5, e0_7, e0_21, e0_22, encPV, and15, s'.1]
     exact hM _ (.refl _)
    apply lex_to
    · rfl
    ·intro h' s' M hM
     simp only [pop, St.eval, constSlot, upd_at, Nat.reduceEqDiff, if_true, if_false, popIndex, partK, Tryd.underlying9, eq_self, true_and, and_true, str_list, str_size, str_app, str_cut, str_get, e0_2, e0_1, e0_5, e0_7, e0_21, e0_22, encPV, hexAt2, Int.toNat_natCast, s'.1]
     refine ⟨Int.natCast_nonneg _, ?_⟩
     exact hM _ (.refl _)
    apply lex_to
    · rfl
    ·intro h' s' M hM
     simp only [pop, St.eval, constSlot, upd_at, Nat.reduceEqDiff, if_true, if_false, popBuildSlice, slotCells, List.toList_toArray, List.map_cons, List.map_nil, List.mapM_cons, List.mapM_nil, Option.bind_eq_bind, Option.bind_some, Option.pure_def, Tryd.underlying73, sz5, ze5, by5, eq_self, true_and, and_true, str_list, str_size, str_app, str_cut, str_get, e0_2, e0_1, e0_5, e0_7, e0_21, e0_22, encPV, s'.1]
     exact ⟨by decide, by decide, rfl, rfl, by simp, by decide, rfl, hM _ (.refl _)⟩
    refine lex_done fun hq2 sq2 => ?_
    replace sq2 := Same.trans sj27 sq2
    refine pops_to rfl fun M hM => ?_
    simp only [pop, St.eval, constSlot, upd_at, Nat.reduceEqDiff, if_true, if_false, popCall, List.toList_toArray, List.map_cons, List.map_nil, popBuiltin, eq_self, true_and, and_true, str_list, str_size, str_app, str_cut, str_get, e0_2, e0_1, e0_5, e0_7, e0_21, e0_22, encPV]
    refine row_app (ys := ([37, hexC (c.toNat / 16), hexC (c.toNat % 16)] : List UInt8).map byteCell) hb Tryd.underlying73 sz5 by5 ze5 rfl (by decide) (ho.same sq2) (hk0.trans (Same.keeps sq2)) rfl (.inr rfl) ⟨by simp; omega, by simp; omega⟩ fun sl2 hp2 ho2 hk2 => hM _ _ ?_
    clear hM M
    refine pops_mv (.inr rfl) rfl (by simp only [St.eval, upd_at, Nat.reduceEqDiff, if_true, if_false, e0_2, e0_1, e0_5, e0_7, e0_21, e0_22, encPV] <;> rfl) ?_
    refine pops_done (hR30 _ ?_)
    clear hR30 R30
    try simp only [blockK, thenK, scopeK]
    try simp only [blockK, thenK, scopeK]
    try simp only [thenK, scopeK]
    refine hN13 _ ?_
    clear hN13 N13
    refine pwp_reg fun R31 hR31 => ?_
    refine pops_to rfl fun M hM => ?_
    simp only [pop, St.eval, constSlot, upd_at, Nat.reduceEqDiff, if_true, if_false, popBin, binK, intK, strK, eqK, eq_self, true_and, and_true, e0_2, e0_1, e0_5, e0_7, e0_21, e0_22, encPV]
    refine hM _ _ ?_
    clear hM M
    refine pops_mv (.inl rfl) rfl (by simp only [St.eval, upd_at, Nat.reduceEqDiff, if_true, if_false, e0_2, e0_1, e0_5, e0_7, e0_21, e0_22, encPV] <;> rfl) ?_
    refine pops_done (hR31 _ ?_)
    clear hR31 R31
    try simp only [thenK, scopeK]
    exact ⟨_, by omega, _, .refl _ _, i + 1, sl2, out ++ [37, hexC (c.toNat / 16), hexC (c.toNat % 16)], rfl, by omega, encFrom_step hx he hx0_1, by simp; omega, ⟨hk2, by rw [List.map_append]; exact ho2⟩, by simp only [upd_at, Nat.reduceEqDiff, if_true, if_false, e0_2, e0_1, e0_5, e0_7, e0_21, e0_22, encPV], by simp only [upd_at, Nat.reduceEqDiff, if_true, if_false, e0_2, e0_1, e0_5, e0_7, e0_21, e0_22, encPV], by simp only [upd_at, Nat.reduceEqDiff, if_true, if_false, e0_2, e0_1, e0_5, e0_7, e0_21, e0_22, encPV], by simp only [upd_at, Nat.reduceEqDiff, if_true, if_false, e0_2, e0_1, e0_5, e0_7, e0_21, e0_22, encPV], by simp only [upd_at, Nat.reduceEqDiff, if_true, if_false, e0_2, e0_1, e0_5, e0_7, e0_21, e0_22, encPV], by simp only [upd_at, Nat.reduceEqDiff, if_true, if_false, e0_22]; rw [wrap_succ (by omega)]⟩
   ·skip
    rw [u8_37, ← escB] at c54
    have hesc := c54
    refine pwp_then fun N32 hN32 => ?_
    refine pwp_reg fun R33 hR33 => ?_
    refine pops_to rfl fun M hM => ?_
    simp only [pop, St.eval, constSlot, upd_at, Nat.reduceEqDiff, if_true, if_false, popFieldAddr, fieldOf, List.drop_succ_cons, List.drop_zero, List.getElem?_toArray, List.getElem?_cons_zero, List.getElem?_cons_succ, Tryd.underlying64, sz4, e0_2, e0_1, e0_5, e0_7, e0_21, e0_22, encPV]
    refine ⟨⟨_, rfl⟩, hM _ _ ?_⟩
    clear hM M
    refine pops_to rfl fun M hM => ?_
    simp only [pop, St.eval, constSlot, upd_at, Nat.reduceEqDiff, if_true, if_false, popLoad, loadK, isAggD, List.drop_zero, List.getElem?_toArray, List.getElem?_cons_zero, List.getElem?_cons_succ, Bool.false_eq_true, Tryd.underlying4, sz4, eq_self, true_and, and_true, e0_2, e0_1, e0_5, e0_7, e0_21, e0_22, encPV]
    refine hM _ _ ?_
    clear hM M
    refine pops_mv (.inl rfl) rfl (by simp only [St.eval, upd_at, Nat.reduceEqDiff, if_true, if_false, e0_2, e0_1, e0_5, e0_7, e0_21, e0_22, encPV] <;> rfl) ?_
    apply pops_and0 11 81 92 [82, 83, 84, 85, 86, 87, 88, 89, 90, 91] (by simp only [upd_at, Nat.reduceEqDiff, if_true, if_false, e0_2, e0_1, e0_5, e0_7, e0_21, e0_22, encPV] <;> rfl)
    ·skip
     intro g81_0 J34 hJ34
     simp only [List.take_succ_cons, List.take_zero]
     simp only [anyAt_cons, anyAt_nil] at hJ34
     refine pops_mvg (.inl rfl) rfl rfl (by simp only [upd_at, Nat.reduceEqDiff, if_true, if_false, e0_2, e0_1, e0_5, e0_7, e0_21, e0_22, encPV, g81_0]) (by simp only [St.eval, upd_at, Nat.reduceEqDiff, if_true, if_false, e0_2, e0_1, e0_5, e0_7, e0_21, e0_22, encPV, g81_0] <;> rfl) ?_
     refine pops_do rfl rfl (by simp only [upd_at, Nat.reduceEqDiff, if_true, if_false, e0_2, e0_1, e0_5, e0_7, e0_21, e0_22, encPV, g81_0]) fun M hM => ?_
     simp only [pop, St.eval, constSlot, upd_at, Nat.reduceEqDiff, if_true, if_false, popBin, binK, intK, strK, eqK, Tryd.underlying5, isPtr, eq_self, true_and, and_true, e0_2, e0_1, e0_5, e0_7, e0_21, e0_22, encPV, g81_0]
     refine hM _ _ ?_
     clear hM M
     refine pops_mvg (.inl rfl) rfl rfl (by simp only [upd_at, Nat.reduceEqDiff, if_true, if_false, e0_2, e0_1, e0_5, e0_7, e0_21, e0_22, encPV, g81_0]) (by simp only [St.eval, upd_at, Nat.reduceEqDiff, if_true, if_false, e0_2, e0_1, e0_5, e0_7, e0_21, e0_22, encPV, g81_0] <;> rfl) ?_
     apply pops_or0 7 84 91 [85, 86, 87, 88, 89, 90] (by simp only [upd_at, Nat.reduceEqDiff, if_true, if_false, e0_2, e0_1, e0_5, e0_7, e0_21, e0_22, encPV, g81_0] <;> rfl)
     ·skip
      intro g84_1 J35 hJ35
      simp only [List.take_succ_cons, List.take_zero]
      simp only [anyAt_cons, anyAt_nil] at hJ35
      refine pops_mvg (.inl rfl) rfl rfl (by simp only [upd_at, Nat.reduceEqDiff, if_true, if_false, e0_2, e0_1, e0_5, e0_7, e0_21, e0_22, encPV, g81_0, g84_1]) (by simp only [St.eval, upd_at, Nat.reduceEqDiff, if_true, if_false, e0_2, e0_1, e0_5, e0_7, e0_21, e0_22, encPV, g81_0, g84_1] <;> rfl) ?_
      refine pops_do rfl rfl (by simp only [upd_at, Nat.reduceEqDiff, if_true, if_false, e0_2, e0_1, e0_5, e0_7, e0_21, e0_22, encPV, g81_0, g84_1]) fun M hM => ?_
      simp only [pop, St.eval, constSlot, upd_at, Nat.reduceEqDiff, if_true, if_false, popBin, binK, intK, strK, eqK, eq_self, true_and, and_true, e0_2, e0_1, e0_5, e0_7, e0_21, e0_22, encPV, g81_0, g84_1]
      refine hM _ _ ?_
      clear hM M
      refine pops_mvg (.inl rfl) rfl rfl (by simp only [upd_at, Nat.reduceEqDiff, if_true, if_false, e0_2, e0_1, e0_5, e0_7, e0_21, e0_22, encPV, g81_0, g84_1]) (by simp only [St.eval, upd_at, Nat.reduceEqDiff, if_true, if_false, e0_2, e0_1, e0_5, e0_7, e0_21, e0_22, encPV, g81_0, g84_1] <;> rfl) ?_
      apply pops_and0 3 87 90 [88, 89] (by simp only [upd_at, Nat.reduceEqDiff, if_true, if_false, e0_2, e0_1, e0_5, e0_7, e0_21, e0_22, encPV, g81_0, g84_1] <;> rfl)
      ·skip
       intro g87_2 J36 hJ36
       simp only [List.take_succ_cons, List.take_zero]
       simp only [anyAt_cons, anyAt_nil] at hJ36
       refine pops_mvg (.inl rfl) rfl rfl (by simp only [upd_at, Nat.reduceEqDiff, if_true, if_false, e0_2, e0_1, e0_5, e0_7, e0_21, e0_22, encPV, g81_0, g84_1, g87_2]) (by simp only [St.eval, upd_at, Nat.reduceEqDiff, if_true, if_false, e0_2, e0_1, e0_5, e0_7, e0_21, e0_22, encPV, g81_0, g84_1, g87_2] <;> rfl) ?_
       refine pops_do rfl rfl (by simp only [upd_at, Nat.reduceEqDiff, if_true, if_false, e0_2, e0_1, e0_5, e0_7, e0_21, e0_22, encPV, g81_0, g84_1, g87_2]) fun M hM => ?_
       simp only [pop, St.eval, constSlot, upd_at, Nat.reduceEqDiff, if_true, if_false, popBin, binK, intK, strK, eqK, eq_self, true_and, and_true, e0_2, e0_1, e0_5, e0_7, e0_21, e0_22, encPV, g81_0, g84_1, g87_2]
       refine hM _ _ ?_
       clear hM M
       refine pops_do rfl rfl (by simp only [upd_at, Nat.reduceEqDiff, if_true, if_false, e0_2, e0_1, e0_5, e0_7, e0_21, e0_22, encPV, g81_0, g84_1, g87_2]) fun M hM => ?_
       simp only [pop, St.eval, constSlot, upd_at, Nat.reduceEqDiff, if_true, if_false, popIf, true_implies, false_implies, Bool.true_eq_false, Bool.false_eq_true, reduceCtorEq, true_and, and_true, e0_2, e0_1, e0_5, e0_7, e0_21, e0_22, encPV, g81_0, g84_1, g87_2]
       refine hM _ _ ?_
       clear hM M
       exact pops_done (hJ36 _ (wk_same (wk_any ((wk_any (Wk.refl _ _))))))
      ·skip
       intro g87_2 J36 hJ36
       simp only [List.take_succ_cons, List.take_zero]
       simp only [anyAt_cons, anyAt_nil] at hJ36
       refine pops_off (b := false) rfl rfl (by simp only [upd_at, Nat.reduceEqDiff, if_true, if_false, e0_2, e0_1, e0_5, e0_7, e0_21, e0_22, encPV, g81_0, g84_1, g87_2]) (by decide) ?_
       refine pops_off (b := false) rfl rfl (by simp only [upd_at, Nat.reduceEqDiff, if_true, if_false, e0_2, e0_1, e0_5, e0_7, e0_21, e0_22, encPV, g81_0, g84_1, g87_2]) (by decide) ?_
       refine pops_do rfl rfl (by simp only [upd_at, Nat.reduceEqDiff, if_true, if_false, e0_2, e0_1, e0_5, e0_7, e0_21, e0_22, encPV, g81_0, g84_1, g87_2]) fun M hM => ?_
       simp only [pop, St.eval, constSlot, upd_at, Nat.reduceEqDiff, if_true, if_false, popIf, true_implies, false_implies, Bool.true_eq_false, Bool.false_eq_true, reduceCtorEq, true_and, and_true, e0_2, e0_1, e0_5, e0_7, e0_21, e0_22, encPV, g81_0, g84_1, g87_2]
       refine hM _ _ ?_
       clear hM M
       exact pops_done (hJ36 _ (wk_same (wk_any ((wk_any (Wk.refl _ _))))))
      simp only [List.drop_succ_cons, List.drop_zero, anyAt_cons, anyAt_nil]
      refine pops_do rfl rfl (by simp only [upd_at, Nat.reduceEqDiff, if_true, if_false, e0_2, e0_1, e0_5, e0_7, e0_21, e0_22, encPV, g81_0, g84_1]) fun M hM => ?_
      simp only [pop, St.eval, constSlot, upd_at, Nat.reduceEqDiff, if_true, if_false, popIf, true_implies, false_implies, Bool.true_eq_false, Bool.false_eq_true, reduceCtorEq, true_and, and_true, e0_2, e0_1, e0_5, e0_7, e0_21, e0_22, encPV, g81_0, g84_1]
      refine hM _ _ ?_
      clear hM M
      exact pops_done (hJ35 _ (wk_same (wk_any ((wk_any ((wk_any ((wk_any ((wk_any ((wk_any (Wk.refl _ _))))))))))))))
     ·skip
      intro g84_1 J35 hJ35
      simp only [List.take_succ_cons, List.take_zero]
      simp only [anyAt_cons, anyAt_nil] at hJ35
      refine pops_off (b := true) rfl rfl (by simp only [upd_at, Nat.reduceEqDiff, if_true, if_false, e0_2, e0_1, e0_5, e0_7, e0_21, e0_22, encPV, g81_0, g84_1]) (by decide) ?_
      refine pops_off (b := true) rfl rfl (by simp only [upd_at, Nat.reduceEqDiff, if_true, if_false, e0_2, e0_1, e0_5, e0_7, e0_21, e0_22, encPV, g81_0, g84_1]) (by decide) ?_
      refine pops_off (b := true) rfl rfl (by simp only [upd_at, Nat.reduceEqDiff, if_true, if_false, e0_2, e0_1, e0_5, e0_7, e0_21, e0_22, encPV, g81_0, g84_1]) (by decide) ?_
      refine pops_off0 rfl rfl (by simp only [upd_at, Nat.reduceEqDiff, if_true, if_false, e0_2, e0_1, e0_5, e0_7, e0_21, e0_22, encPV, g81_0, g84_1]) ?_
      refine pops_off0 rfl rfl (by simp only [upd_at, Nat.reduceEqDiff, if_true, if_false, e0_2, e0_1, e0_5, e0_7, e0_21, e0_22, encPV, g81_0, g84_1]) ?_
      refine pops_off (b := true) rfl rfl (by simp only [upd_at, Nat.reduceEqDiff, if_true, if_false, e0_2, e0_1, e0_5, e0_7, e0_21, e0_22, encPV, g81_0, g84_1]) (by decide) ?_
      refine pops_do rfl rfl (by simp only [upd_at, Nat.reduceEqDiff, if_true, if_false, e0_2, e0_1, e0_5, e0_7, e0_21, e0_22, encPV, g81_0, g84_1]) fun M hM => ?_
      simp only [pop, St.eval, constSlot, upd_at, Nat.reduceEqDiff, if_true, if_false, popIf, true_implies, false_implies, Bool.true_eq_false, Bool.false_eq_true, reduceCtorEq, true_and, and_true, e0_2, e0_1, e0_5, e0_7, e0_21, e0_22, encPV, g81_0, g84_1]
      refine hM _ _ ?_
      clear hM M
      exact pops_done (hJ35 _ (wk_same (wk_any ((wk_any ((wk_any ((wk_any ((wk_any ((wk_any (Wk.refl _ _))))))))))))))
     simp only [List.drop_succ_cons, List.drop_zero, anyAt_cons, anyAt_nil]
     refine pops_to rfl fun M hM => ?_
     simp only [pop, St.eval, constSlot, upd_at, Nat.reduceEqDiff, if_true, if_false, popIf, true_implies, false_implies, Bool.true_eq_false, Bool.false_eq_true, reduceCtorEq, true_and, and_true, e0_2, e0_1, e0_5, e0_7, e0_21, e0_22, encPV, g81_0]
     refine hM _ _ ?_
     clear hM M
     exact pops_done (hJ34 _ (wk_same (wk_any ((wk_any ((wk_any ((wk_any ((wk_any ((wk_any ((wk_any ((wk_any ((wk_any ((wk_any (Wk.refl _ _))))))))))))))))))))))
    ·skip
     intro g81_0 J34 hJ34
     simp only [List.take_succ_cons, List.take_zero]
     simp only [anyAt_cons, anyAt_nil] at hJ34
     refine pops_off (b := false) rfl rfl (by simp only [upd_at, Nat.reduceEqDiff, if_true, if_false, e0_2, e0_1, e0_5, e0_7, e0_21, e0_22, encPV, g81_0]) (by decide) ?_
     refine pops_off (b := false) rfl rfl (by simp only [upd_at, Nat.reduceEqDiff, if_true, if_false, e0_2, e0_1, e0_5, e0_7, e0_21, e0_22, encPV, g81_0]) (by decide) ?_
     refine pops_off (b := false) rfl rfl (by simp only [upd_at, Nat.reduceEqDiff, if_true, if_false, e0_2, e0_1, e0_5, e0_7, e0_21, e0_22, encPV, g81_0]) (by decide) ?_
     refine pops_off0 rfl rfl (by simp only [upd_at, Nat.reduceEqDiff, if_true, if_false, e0_2, e0_1, e0_5, e0_7, e0_21, e0_22, encPV, g81_0]) ?_
     refine pops_off0 rfl rfl (by simp only [upd_at, Nat.reduceEqDiff, if_true, if_false, e0_2, e0_1, e0_5, e0_7, e0_21, e0_22, encPV, g81_0]) ?_
     refine pops_off0 rfl rfl (by simp only [upd_at, Nat.reduceEqDiff, if_true, if_false, e0_2, e0_1, e0_5, e0_7, e0_21, e0_22, encPV, g81_0]) ?_
     refine pops_off0 rfl rfl (by simp only [upd_at, Nat.reduceEqDiff, if_true, if_false, e0_2, e0_1, e0_5, e0_7, e0_21, e0_22, encPV, g81_0]) ?_
     refine pops_off0 rfl rfl (by simp only [upd_at, Nat.reduceEqDiff, if_true, if_false, e0_2, e0_1, e0_5, e0_7, e0_21, e0_22, encPV, g81_0]) ?_
     refine pops_off0 rfl rfl (by simp only [upd_at, Nat.reduceEqDiff, if_true, if_false, e0_2, e0_1, e0_5, e0_7, e0_21, e0_22, encPV, g81_0]) ?_
     refine pops_off (b := false) rfl rfl (by simp only [upd_at, Nat.reduceEqDiff, if_true, if_false, e0_2, e0_1, e0_5, e0_7, e0_21, e0_22, encPV, g81_0]) (by decide) ?_
     refine pops_to rfl fun M hM => ?_
     simp only [pop, St.eval, constSlot, upd_at, Nat.reduceEqDiff, if_true, if_false, popIf, true_implies, false_implies, Bool.true_eq_false, Bool.false_eq_true, reduceCtorEq, true_and, and_true, e0_2, e0_1, e0_5, e0_7, e0_21, e0_22, encPV, g81_0]
     refine hM _ _ ?_
     clear hM M
     exact pops_done (hJ34 _ (wk_same (wk_any ((wk_any ((wk_any ((wk_any ((wk_any ((wk_any ((wk_any ((wk_any ((wk_any ((wk_any (Wk.refl _ _))))))))))))))))))))))
    simp only [List.drop_succ_cons, List.drop_zero, anyAt_cons, anyAt_nil]
    refine pops_mv (.inr rfl) rfl (by simp only [St.eval, upd_at, Nat.reduceEqDiff, if_true, if_false, e0_2, e0_1, e0_5, e0_7, e0_21, e0_22, encPV] <;> rfl) ?_
    refine pops_done (hR33 _ ?_)
    clear hR33 R33
    try simp only [thenK, scopeK]
    refine hN32 _ ?_
    clear hN32 N32
    refine pwp_cond (by simp only [St.eval, upd_at, Nat.reduceEqDiff, if_true, if_false, e0_2, e0_1, e0_5, e0_7, e0_21, e0_22, encPV] <;> rfl) (fun c78 => ?_) (fun c78 => ?_)
    ·skip
     rw [u8_94, case_prog] at c78
     have he := encAt_case hi hesc (of_decide_eq_true c78)
     refine pwp_reg fun R37 hR37 => ?_
     refine pops_mv (.inl rfl) rfl (by simp only [St.eval, upd_at, Nat.reduceEqDiff, if_true, if_false, e0_2, e0_1, e0_5, e0_7, e0_21, e0_22, encPV] <;> rfl) ?_
     refine pops_mv (.inl rfl) rfl (by simp only [St.eval, upd_at, Nat.reduceEqDiff, if_true, if_false, e0_2, e0_1, e0_5, e0_7, e0_21, e0_22, encPV] <;> rfl) ?_
     refine pops_to rfl fun M hM => ?_
     simp only [pop, St.eval, constSlot, upd_at, Nat.reduceEqDiff, if_true, if_false, popCall, List.toList_toArray, List.map_cons, List.map_nil, svs, List.mapM_cons, List.mapM_nil, Option.bind_eq_bind, Option.bind_some, Option.pure_def, List.append_nil, List.cons_append, List.nil_append, str_size, e0_2, e0_1, e0_5, e0_7, e0_21, e0_22, encPV]
     refine PFun.use (small_fun W0 c) fun h4 s4 => hM _ _ ?_
     replace s4 := Same.trans sj27 s4
     clear hM M
     refine pops_to rfl fun M hM => ?_
     simp only [pop, St.eval, constSlot, upd_at, Nat.reduceEqDiff, if_true, if_false, popBuildSlice, slotCells, List.toList_toArray, List.map_cons, List.map_nil, List.mapM_cons, List.mapM_nil, Option.bind_eq_bind, Option.bind_some, Option.pure_def, Tryd.underlying73, sz5, ze5, by5, eq_self, true_and, and_true, str_list, str_size, str_app, str_cut, str_get, e0_2, e0_1, e0_5, e0_7, e0_21, e0_22, encPV]
     refine ⟨by decide, by decide, rfl, rfl, by simp, by decide, rfl, hM _ _ ?_⟩
     clear hM M
     refine pops_to rfl fun M hM => ?_
     simp only [pop, St.eval, constSlot, upd_at, Nat.reduceEqDiff, if_true, if_false, popCall, List.toList_toArray, List.map_cons, List.map_nil, popBuiltin, eq_self, true_and, and_true, str_list, str_size, str_app, str_cut, str_get, e0_2, e0_1, e0_5, e0_7, e0_21, e0_22, encPV]
     refine row_app (ys := ([94, lowC c] : List UInt8).map byteCell) hb Tryd.underlying73 sz5 by5 ze5 rfl (by decide) (ho.same s4) (hk0.trans (Same.keeps s4)) rfl (.inr rfl) ⟨by simp; omega, by simp; omega⟩ fun sl2 hp2 ho2 hk2 => hM _ _ ?_
     clear hM M
     refine pops_mv (.inr rfl) rfl (by simp only [St.eval, upd_at, Nat.reduceEqDiff, if_true, if_false, e0_2, e0_1, e0_5, e0_7, e0_21, e0_22, encPV] <;> rfl) ?_
     refine pops_done (hR37 _ ?_)
     clear hR37 R37
     try simp only [blockK, thenK, scopeK]
     try simp only [blockK, thenK, scopeK]
     try simp only [thenK, scopeK]
     refine hN13 _ ?_
     clear hN13 N13
     refine pwp_reg fun R38 hR38 => ?_
     refine pops_to rfl fun M hM => ?_
     simp only [pop, St.eval, constSlot, upd_at, Nat.reduceEqDiff, if_true, if_false, popBin, binK, intK, strK, eqK, eq_self, true_and, and_true, e0_2, e0_1, e0_5, e0_7, e0_21, e0_22, encPV]
     refine hM _ _ ?_
     clear hM M
     refine pops_mv (.inl rfl) rfl (by simp only [St.eval, upd_at, Nat.reduceEqDiff, if_true, if_false, e0_2, e0_1, e0_5, e0_7, e0_21, e0_22, encPV] <;> rfl) ?_
     refine pops_done (hR38 _ ?_)
     clear hR38 R38
     try simp only [thenK, scopeK]
     exact ⟨_, by omega, _, .refl _ _, i + 1, sl2, out ++ [94, lowC c], rfl, by omega, encFrom_step hx he hx0_1, by simp; omega, ⟨hk2, by rw [List.map_append]; exact ho2⟩, by simp only [upd_at, Nat.reduceEqDiff, if_true, if_false, e0_2, e0_1, e0_5, e0_7, e0_21, e0_22, encPV], by simp only [upd_at, Nat.reduceEqDiff, if_true, if_false, e0_2, e0_1, e0_5, e0_7, e0_21, e0_22, encPV], by simp only [upd_at, Nat.reduceEqDiff, if_true, if_false, e0_2, e0_1, e0_5, e0_7, e0_21, e0_22, encPV], by simp only [upd_at, Nat.reduceEqDiff, if_true, if_false, e0_2, e0_1, e0_5, e0_7, e0_21, e0_22, encPV], by simp only [upd_at, Nat.reduceEqDiff, if_true, if_false, e0_2, e0_1, e0_5, e0_7, e0_21, e0_22, encPV], by simp only [upd_at, Nat.reduceEqDiff, if_true, if_false, e0_22]; rw [wrap_succ (by omega)]⟩
    ·skip
     rw [u8_94, case_prog] at c78
     have he := encAt_plain hi hesc (of_decide_eq_false c78)
     refine pwp_reg fun R39 hR39 => ?_
     refine pops_mv (.inl rfl) rfl (by simp only [St.eval, upd_at, Nat.reduceEqDiff, if_true, if_false, e0_2, e0_1, e0_5, e0_7, e0_21, e0_22, encPV] <;> rfl) ?_
     refine pops_mv (.inl rfl) rfl (by simp only [St.eval, upd_at, Nat.reduceEqDiff, if_true, if_false, e0_2, e0_1, e0_5, e0_7, e0_21, e0_22, encPV] <;> rfl) ?_
     refine pops_to rfl fun M hM => ?_
     simp only [pop, St.eval, constSlot, upd_at, Nat.reduceEqDiff, if_true, if_false, popBuildSlice, slotCells, List.toList_toArray, List.map_cons, List.map_nil, List.mapM_cons, List.mapM_nil, Option.bind_eq_bind, Option.bind_some, Option.pure_def, Tryd.underlying73, sz5, ze5, by5, eq_self, true_and, and_true, str_list, str_size, str_app, str_cut, str_get, e0_2, e0_1, e0_5, e0_7, e0_21, e0_22, encPV]
     refine ⟨by decide, by decide, rfl, rfl, by simp, by decide, rfl, hM _ _ ?_⟩
     clear hM M
     refine pops_to rfl fun M hM => ?_
     simp only [pop, St.eval, constSlot, upd_at, Nat.reduceEqDiff, if_true, if_false, popCall, List.toList_toArray, List.map_cons, List.map_nil, popBuiltin, eq_self, true_and, and_true, str_list, str_size, str_app, str_cut, str_get, e0_2, e0_1, e0_5, e0_7, e0_21, e0_22, encPV]
     refine row_app (ys := ([c] : List UInt8).map byteCell) hb Tryd.underlying73 sz5 by5 ze5 rfl (by decide) (ho.same sj27) (hk0.trans (Same.keeps sj27)) rfl (.inr rfl) ⟨by simp; omega, by simp; omega⟩ fun sl2 hp2 ho2 hk2 => hM _ _ ?_
     clear hM M
     refine pops_mv (.inr rfl) rfl (by simp only [St.eval, upd_at, Nat.reduceEqDiff, if_true, if_false, e0_2, e0_1, e0_5, e0_7, e0_21, e0_22, encPV] <;> rfl) ?_
     refine pops_done (hR39 _ ?_)
     clear hR39 R39
     try simp only [blockK, thenK, scopeK]
     try simp only [blockK, thenK, scopeK]
     try simp only [thenK, scopeK]
     refine hN13 _ ?_
     clear hN13 N13
     refine pwp_reg fun R40 hR40 => ?_
     refine pops_to rfl fun M hM => ?_
     simp only [pop, St.eval, constSlot, upd_at, Nat.reduceEqDiff, if_true, if_false, popBin, binK, intK, strK, eqK, eq_self, true_and, and_true, e0_2, e0_1, e0_5, e0_7, e0_21, e0_22, encPV]
     refine hM _ _ ?_
     clear hM M
     refine pops_mv (.inl rfl) rfl (by simp only [St.eval, upd_at, Nat.reduceEqDiff, if_true, if_false, e0_2, e0_1, e0_5, e0_7, e0_21, e0_22, encPV] <;> rfl) ?_
     refine pops_done (hR40 _ ?_)
     clear hR40 R40
     try simp only [thenK, scopeK]
     exact ⟨_, by omega, _, .refl _ _, i + 1, sl2, out ++ [c], rfl, by omega, encFrom_step hx he hx0_1, by simp; omega, ⟨hk2, by rw [List.map_append]; exact ho2⟩, by simp only [upd_at, Nat.reduceEqDiff, if_true, if_false, e0_2, e0_1, e0_5, e0_7, e0_21, e0_22, encPV], by simp only [upd_at, Nat.reduceEqDiff, if_true, if_false, e0_2, e0_1, e0_5, e0_7, e0_21, e0_22, encPV], by simp only [upd_at, Nat.reduceEqDiff, if_true, if_false, e0_2, e0_1, e0_5, e0_7, e0_21, e0_22, encPV], by simp only [upd_at, Nat.reduceEqDiff, if_true, if_false, e0_2, e0_1, e0_5, e0_7, e0_21, e0_22, encPV], by simp only [upd_at, Nat.reduceEqDiff, if_true, if_false, e0_2, e0_1, e0_5, e0_7, e0_21, e0_22, encPV], by simp only [upd_at, Nat.reduceEqDiff, if_true, if_false, e0_22]; rw [wrap_succ (by omega)]⟩
  ·skip
   have hi := of_decide_eq_false c23
   obtain rfl := encFrom_end hi hx0_1
   refine pwp_exit ?_
   try simp only [thenK, blockK, scopeK, if_true, Nat.reduceEqDiff, if_false]
   clear hN12 N12
   try simp only [blockK, scopeK, if_true, Nat.reduceEqDiff, if_false, thenK]
   try simp only [thenK, scopeK]
   refine hN7 _ ?_
   clear hN7 N7
   refine pwp_then fun N41 hN41 => ?_
   refine pwp_reg fun R42 hR42 => ?_
   refine pops_mv (.inl rfl) rfl (by simp only [St.eval, upd_at, Nat.reduceEqDiff, if_true, if_false, e0_2, e0_1, e0_5, e0_7, e0_21, e0_22, encPV] <;> rfl) ?_
   refine pops_to rfl fun M hM => ?_
   simp only [pop, St.eval, constSlot, upd_at, Nat.reduceEqDiff, if_true, if_false, eq_self, true_and, and_true, str_list, str_size, str_app, str_cut, str_get, e0_2, e0_1, e0_5, e0_7, e0_21, e0_22, encPV]
   refine row_str Tryd.underlying9 Tryd.underlying73 Tryd.underlying5 (ho.same (Same.refl _)) (hM _ _ ?_)
   clear hM M
   refine pops_mv (.inr rfl) rfl (by simp only [St.eval, upd_at, Nat.reduceEqDiff, if_true, if_false, e0_2, e0_1, e0_5, e0_7, e0_21, e0_22, encPV] <;> rfl) ?_
   refine pops_done (hR42 _ ?_)
   clear hR42 R42
   try simp only [thenK, scopeK]
   refine hN41 _ ?_
   clear hN41 N41
   refine pwp_ret ?_
   simp only [thenK, blockK, scopeK, bodyK]
   exact ⟨_, rfl, endKeeps1 (hk0.trans (Same.keeps (Same.refl _))) rfl⟩
end Go.Pw
