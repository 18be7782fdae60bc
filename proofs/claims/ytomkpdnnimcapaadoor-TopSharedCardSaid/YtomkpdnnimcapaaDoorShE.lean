import Derived.Test.YtomkpdnnimcapaaDoorShB
import Derived.Laws.StructEq
namespace Go.Pw
open Go Go.RowKit Go.Proofs
set_option maxRecDepth 100000
set_option linter.unusedSimpArgs false
set_option linter.unusedVariables false

theorem eq_sh (s x : UInt8 × List UInt8) (w : World) : (Op.equal 30 (.agg #[.int .i64 (s.1.toNat : Int), .string ⟨s.2.toArray⟩]) (.agg #[.int .i64 (x.1.toNat : Int), .string ⟨x.2.toArray⟩])).run Tryd.prog w = .ok (x == s) w := by
  show (Op.equalIn 10000 30 _ _).run Tryd.prog w = _
  rw [run_equalIn_struct w 9999 30 _ _ (by simp [Program.fieldsOf, Tryd.underlying30]) (by kernel_rfl)]
  simp only [Program.fieldsOf, Tryd.underlying30]
  obtain ⟨s1, s2⟩ := s
  obtain ⟨x1, x2⟩ := x
  go_simp
  have e : ((x1, x2) == (s1, s2)) = ((x1 == s1) && (x2 == s2)) := rfl
  rw [e]
  by_cases h1 : x1 = s1
  · subst h1
    by_cases h2 : x2 = s2
    · subst h2; simp
    · have h3 : ¬ s2 = x2 := fun e => h2 e.symm
      simp [h2, h3]
  · have h3 : ¬ s1.toNat = x1.toNat := fun e => h1 (UInt8.toNat_inj.1 e.symm)
    have h4 : ¬ s1 = x1 := fun e => h1 e.symm
    have h5 : ¬ ((s1.toNat : Int) = (x1.toNat : Int)) := fun e => h3 (by omega)
    rw [show (x1 == s1) = false from by simpa using h1]
    first
    | (simp [h3, h4, h5]; done)
    | (rw [if_neg h5]; rfl)
    | (rw [if_neg h3]; rfl)
def idxL (l : List (UInt8 × List UInt8)) (s : UInt8 × List UInt8) : Int := match l.findIdx? (fun x => x == s) with | some k => (k : Int) | none => -1
theorem idx_hit {l : List (UInt8 × List UInt8)} {s : UInt8 × List UInt8} {i : Nat} {x : UInt8 × List UInt8} (h1 : ∀ y ∈ l.take i, (y == s) = false) (hx : l[i]? = some x) (hq : (x == s) = true) : idxL l s = (i : Int) := by
  have : l.findIdx? (fun x => x == s) = some i := by
    induction l generalizing i with
    | nil => cases hx
    | cons a l ih =>
      cases i with
      | zero =>
        obtain rfl := Option.some.inj hx
        rw [List.findIdx?_cons, hq]; rfl
      | succ i =>
        have h0 := h1 a (by simp)
        rw [List.findIdx?_cons, h0]
        have := ih (i := i) (fun y hy => h1 y (by simp [hy])) hx
        simp [this]
  unfold idxL
  rw [this]
theorem idx_none {l : List (UInt8 × List UInt8)} {s : UInt8 × List UInt8} (h1 : ∀ y ∈ l, (y == s) = false) : idxL l s = -1 := by
  have : l.findIdx? (fun x => x == s) = none := List.findIdx?_eq_none_iff.2 h1
  unfold idxL
  rw [this]
theorem idx_has (l : List (UInt8 × List UInt8)) (s : UInt8 × List UInt8) : decide (idxL l s ≥ 0) = l.contains s := by
  unfold idxL
  cases h : l.findIdx? (fun x => x == s) with
  | none =>
    have h2 := List.findIdx?_eq_none_iff.1 h
    rw [show l.contains s = false from by
      rw [List.contains_eq_mem, decide_eq_false_iff_not]
      intro hm
      have := h2 s hm
      simp at this]
    rfl
  | some k =>
    obtain ⟨hk, h3, _⟩ := List.findIdx?_eq_some_iff_getElem.1 h
    have e : l[k] = s := eq_of_beq h3
    rw [show l.contains s = true from by rw [List.contains_eq_mem, decide_eq_true_eq, ← e]; exact List.getElem_mem hk]
    simp
theorem take_nextS {α : Type} {Q : α → Prop} {l : List α} {i : Nat} {x : α} (h1 : ∀ y ∈ l.take i, Q y) (hx : l[i]? = some x) (hq : Q x) : ∀ y ∈ l.take (i + 1), Q y := by
  rw [List.take_add_one, hx]
  simp only [Option.toList_some, List.mem_append, List.mem_singleton]
  rintro y (hy | rfl)
  · exact h1 y hy
  · exact hq
theorem nm10 : (Tryd.f10.name == "runtime.NumGoroutine") = false := by kernel_rfl
theorem indexSh_fun (W0 : World) (full : Bool) (l : List (UInt8 × List UInt8)) (s : UInt8 × List UInt8) (hn : l.length ≤ 255) :
  PFun Tryd.prog W0 10 [.one (.ro full 2 (l.map shPV)), .agg (shPV s)] (.sv (.one (pint (idxL l s)))) := by
 intro h
 refine pcalls2 (n := 19) Tryd.func10 rfl nm10 rfl fun hb => ?_
 refine pwp_then fun N1 hN1 => ?_
 refine pwp_reg fun R2 hR2 => ?_
 refine pops_to rfl fun M hM => ?_
 simp only [pop, St.eval, constSlot, upd_at, Nat.reduceEqDiff, if_true, if_false, popBox, popBoxRo, slotCells, shPV]
 refine .inr ⟨Nat.succ_pos _, hM _ _ ?_⟩
 clear hM M
 refine pops_mv (.inr rfl) rfl (by simp only [St.eval, constSlot] <;> rfl) ?_
 refine pops_done (hR2 _ ?_)
 clear hR2 R2
 try simp only [thenK, scopeK]
 refine hN1 _ ?_
 clear hN1 N1
 refine pwp_then fun N3 hN3 => ?_
 refine pwp_then fun N4 hN4 => ?_
 refine pwp_reg fun R5 hR5 => ?_
 refine pops_mv (.inl rfl) rfl (by simp only [St.eval, upd_at, Nat.reduceEqDiff, if_true, if_false, shPV] <;> rfl) ?_
 refine pops_to rfl fun M hM => ?_
 simp only [pop, St.eval, constSlot, upd_at, Nat.reduceEqDiff, if_true, if_false, popCall, List.toList_toArray, List.map_cons, List.map_nil, popBuiltin, popLen, lenOfSlot, List.length_map, Tryd.underlying25, eq_self, true_and, and_true, str_list, str_size, str_app, str_cut, str_get, shPV, List.length_map]
 refine hM _ _ ?_
 clear hM M
 refine pops_mv (.inl rfl) rfl (by simp only [St.eval, constSlot] <;> rfl) ?_
 refine pops_done (hR5 _ ?_)
 clear hR5 R5
 try simp only [thenK, scopeK]
 refine hN4 _ ?_
 clear hN4 N4
 refine pwp_block ?_
 refine pwp_loop (fun k σ => ∃ (i : Nat), (k = l.length - i) ∧ (i ≤ l.length) ∧ (∀ y ∈ l.take i, (y == s) = false) ∧ (Same h σ.hp) ∧ (σ.env 0 = .sv (.one (.ro full 2 (l.map shPV)))) ∧ (σ.env 3 = .sv (.one (.rop (shPV s)))) ∧ (σ.env 7 = .sv (.one (pint (l.length : Nat)))) ∧ (σ.env 8 = .sv (.one (pint (i : Nat))))) _ ⟨_, .refl _ _, 0, rfl, ?_⟩ ?_
 · exact ⟨Nat.zero_le _, by simp, (Same.refl _), by simp only [upd_at, Nat.reduceEqDiff, if_true, if_false, shPV], by simp only [upd_at, Nat.reduceEqDiff, if_true, if_false, shPV], by first | rfl | (simp only [upd_at, Nat.reduceEqDiff, if_true, if_false]; rfl), by first | rfl | (simp only [upd_at, Nat.reduceEqDiff, if_true, if_false]; rfl)⟩
 ·rintro k ⟨e, hp0⟩ ⟨i, hk0, hx0_0, hx0_1, sl0, e0_0, e0_3, e0_7, e0_8⟩
  simp only at sl0 e0_0 e0_3 e0_7 e0_8
  refine pwp_then fun N6 hN6 => ?_
  refine pwp_reg fun R7 hR7 => ?_
  refine pops_to rfl fun M hM => ?_
  simp only [pop, St.eval, constSlot, upd_at, Nat.reduceEqDiff, if_true, if_false, popBin, binK, intK, strK, eqK, eq_self, true_and, and_true, e0_0, e0_3, e0_7, e0_8, shPV]
  refine hM _ _ ?_
  clear hM M
  refine pops_done (hR7 _ ?_)
  clear hR7 R7
  try simp only [thenK, scopeK]
  refine hN6 _ ?_
  clear hN6 N6
  refine pwp_then fun N8 hN8 => ?_
  refine pwp_cond (by simp only [St.eval, upd_at, Nat.reduceEqDiff, if_true, if_false, e0_0, e0_3, e0_7, e0_8, shPV] <;> rfl) (fun c9 => ?_) (fun c9 => ?_)
  ·skip
   have hi : i < l.length := by have := of_decide_eq_true c9; omega
   obtain ⟨x, hx⟩ : ∃ x, l[i]? = some x := ⟨_, List.getElem?_eq_getElem (by omega)⟩
   have hgx : (l.map shPV)[i]? = some [.val (.int .i64 (x.1.toNat : Int)), pstr x.2] := by simp only [List.getElem?_map, hx, Option.map_some]
   refine pwp_skip ?_
   try simp only [thenK, scopeK]
   refine hN8 _ ?_
   clear hN8 N8
   refine pwp_then fun N9 hN9 => ?_
   refine pwp_block ?_
   refine pwp_then fun N10 hN10 => ?_
   refine pwp_reg fun R11 hR11 => ?_
   refine pops_mv (.inl rfl) rfl (by simp only [St.eval, upd_at, Nat.reduceEqDiff, if_true, if_false, e0_0, e0_3, e0_7, e0_8, shPV] <;> rfl) ?_
   refine pops_mv (.inr rfl) rfl (by simp only [St.eval, upd_at, Nat.reduceEqDiff, if_true, if_false, e0_0, e0_3, e0_7, e0_8, shPV] <;> rfl) ?_
   refine pops_done (hR11 _ ?_)
   clear hR11 R11
   try simp only [thenK, scopeK]
   refine hN10 _ ?_
   clear hN10 N10
   refine pwp_then fun N12 hN12 => ?_
   refine pwp_dreg 6 mixed (by decide +kernel) fun R13 hR13 => ?_
   simp only [List.take_succ_cons, List.take_zero, List.drop_succ_cons, List.drop_zero]
   apply lex_to
   · rfl
   ·intro h' s' M hM
    simp only [pop, St.eval, constSlot, upd_at, Nat.reduceEqDiff, if_true, if_false, List.length_cons, List.length_nil, Nat.zero_add, Nat.reduceAdd, Nat.reduceLeDiff, List.take_zero, List.take_succ_cons, List.take_nil, List.drop_succ_cons, List.drop_zero, List.drop_nil, List.nil_append, List.cons_append, List.append_nil, and_self, List.getElem?_cons_zero, List.getElem?_cons_succ, List.set_cons_zero, List.set_cons_succ, Option.some.injEq, popLoad, loadK, isAggD, List.drop_zero, List.getElem?_toArray, List.getElem?_cons_zero, List.getElem?_cons_succ, Bool.false_eq_true, Tryd.underlying30, sz30, eq_self, true_and, and_true, e0_0, e0_3, e0_7, e0_8, shPV, s'.1]
    exact hM _ (.refl _)
   apply lex_to
   · rfl
   ·intro h' s' M hM
    simp only [pop, St.eval, constSlot, upd_at, Nat.reduceEqDiff, if_true, if_false, eq_self, true_and, and_true, str_list, str_size, str_app, str_cut, str_get, e0_0, e0_3, e0_7, e0_8, shPV, s'.1]
    exact hM _ (.refl _)
   apply lex_to
   · rfl
   ·intro h' s' M hM
    simp only [pop, St.eval, constSlot, upd_at, Nat.reduceEqDiff, if_true, if_false, eq_self, true_and, and_true, str_list, str_size, str_app, str_cut, str_get, e0_0, e0_3, e0_7, e0_8, shPV, s'.1]
    exact hM _ (.refl _)
   apply lex_to
   · rfl
   ·intro h' s' M hM
    simp only [pop, St.eval, constSlot, upd_at, Nat.reduceEqDiff, if_true, if_false, popIndexAddr, Tryd.underlying25, sz30, eq_self, true_and, and_true, str_list, str_size, str_app, str_cut, str_get, e0_0, e0_3, e0_7, e0_8, shPV, hgx, Int.toNat_natCast, s'.1]
    refine ⟨Int.natCast_nonneg _, ?_⟩
    exact hM _ (.refl _)
   apply lex_to
   · rfl
   ·intro h' s' M hM
    simp only [pop, St.eval, constSlot, upd_at, Nat.reduceEqDiff, if_true, if_false, List.length_cons, List.length_nil, Nat.zero_add, Nat.reduceAdd, Nat.reduceLeDiff, List.take_zero, List.take_succ_cons, List.take_nil, List.drop_succ_cons, List.drop_zero, List.drop_nil, List.nil_append, List.cons_append, List.append_nil, and_self, List.getElem?_cons_zero, List.getElem?_cons_succ, List.set_cons_zero, List.set_cons_succ, Option.some.injEq, popLoad, loadK, isAggD, List.drop_zero, List.getElem?_toArray, List.getElem?_cons_zero, List.getElem?_cons_succ, Bool.false_eq_true, Tryd.underlying30, sz30, eq_self, true_and, and_true, e0_0, e0_3, e0_7, e0_8, shPV, s'.1]
    exact hM _ (.refl _)
   apply lex_to
   · rfl
   ·intro h' s' M hM
    simp only [pop, St.eval, constSlot, upd_at, Nat.reduceEqDiff, if_true, if_false, popBin, binK, intK, strK, eqK, Tryd.underlying30, isPtr, eq_self, true_and, and_true, e0_0, e0_3, e0_7, e0_8, shPV, s'.1]
    refine ⟨[.int .i64 (s.1.toNat : Int), .string ⟨s.2.toArray⟩], [.int .i64 (x.1.toNat : Int), .string ⟨x.2.toArray⟩], (x == s), rfl, rfl, by kernel_rfl, fun w => eq_sh s x w, ?_⟩
    exact hM _ (.refl _)
   refine lex_done fun hq sq => ?_
   replace sq := Same.trans sl0 sq
   refine pops_done (hR13 _ ?_)
   clear hR13 R13
   try simp only [thenK, scopeK]
   refine hN12 _ ?_
   clear hN12 N12
   refine pwp_cond (by simp only [St.eval, upd_at, Nat.reduceEqDiff, if_true, if_false, e0_0, e0_3, e0_7, e0_8, shPV] <;> rfl) (fun c16 => ?_) (fun c16 => ?_)
   ·skip
    have hf := idx_hit hx0_1 hx c16
    refine pwp_then fun N14 hN14 => ?_
    refine pwp_reg fun R15 hR15 => ?_
    refine pops_mv (.inl rfl) rfl (by simp only [St.eval, upd_at, Nat.reduceEqDiff, if_true, if_false, e0_0, e0_3, e0_7, e0_8, shPV] <;> rfl) ?_
    refine pops_mv (.inr rfl) rfl (by simp only [St.eval, upd_at, Nat.reduceEqDiff, if_true, if_false, e0_0, e0_3, e0_7, e0_8, shPV] <;> rfl) ?_
    refine pops_done (hR15 _ ?_)
    clear hR15 R15
    try simp only [thenK, scopeK]
    refine hN14 _ ?_
    clear hN14 N14
    refine pwp_ret ?_
    simp only [thenK, blockK, scopeK, bodyK]
    clear hN9 N9 hN3 N3
    refine ⟨_, rfl, endFun sq ?_⟩
    try simp only [upd_at, Nat.reduceEqDiff, if_true, if_false, e0_0, e0_3, e0_7, e0_8, shPV]
    all_goals
     rw [hf]
   ·skip
    refine pwp_skip ?_
    try simp only [blockK, thenK, scopeK]
    try simp only [thenK, scopeK]
    refine hN9 _ ?_
    clear hN9 N9
    refine pwp_reg fun R16 hR16 => ?_
    refine pops_to rfl fun M hM => ?_
    simp only [pop, St.eval, constSlot, upd_at, Nat.reduceEqDiff, if_true, if_false, popBin, binK, intK, strK, eqK, eq_self, true_and, and_true, e0_0, e0_3, e0_7, e0_8, shPV]
    refine hM _ _ ?_
    clear hM M
    refine pops_mv (.inl rfl) rfl (by simp only [St.eval, upd_at, Nat.reduceEqDiff, if_true, if_false, e0_0, e0_3, e0_7, e0_8, shPV] <;> rfl) ?_
    refine pops_done (hR16 _ ?_)
    clear hR16 R16
    try simp only [thenK, scopeK]
    exact ⟨_, by omega, _, .refl _ _, i + 1, rfl, by omega, take_nextS hx0_1 hx c16, sq, by simp only [upd_at, Nat.reduceEqDiff, if_true, if_false, e0_0, e0_3, e0_7, e0_8, shPV], by simp only [upd_at, Nat.reduceEqDiff, if_true, if_false, e0_0, e0_3, e0_7, e0_8, shPV], by simp only [upd_at, Nat.reduceEqDiff, if_true, if_false, e0_0, e0_3, e0_7, e0_8, shPV], by simp only [upd_at, Nat.reduceEqDiff, if_true, if_false, e0_8]; rw [wrap_succ (by omega)]⟩
  ·skip
   have hi := of_decide_eq_false c9
   refine pwp_exit ?_
   try simp only [thenK, blockK, scopeK, if_true, Nat.reduceEqDiff, if_false]
   clear hN8 N8
   try simp only [blockK, scopeK, if_true, Nat.reduceEqDiff, if_false, thenK]
   try simp only [thenK, scopeK]
   refine hN3 _ ?_
   clear hN3 N3
   refine pwp_then fun N17 hN17 => ?_
   refine pwp_reg fun R18 hR18 => ?_
   refine pops_mv (.inr rfl) rfl (by simp only [St.eval, constSlot] <;> rfl) ?_
   refine pops_done (hR18 _ ?_)
   clear hR18 R18
   try simp only [thenK, scopeK]
   refine hN17 _ ?_
   clear hN17 N17
   refine pwp_ret ?_
   simp only [thenK, blockK, scopeK, bodyK]
   refine ⟨_, rfl, endFun sl0 ?_⟩
   try simp only [upd_at, Nat.reduceEqDiff, if_true, if_false, e0_0, e0_3, e0_7, e0_8, shPV]
   all_goals
    rw [idx_none (by rw [List.take_of_length_le (by omega)] at hx0_1; exact hx0_1)]

theorem nm6 : (Tryd.f6.name == "runtime.NumGoroutine") = false := by kernel_rfl
theorem containsSh_fun (W0 : World) (full : Bool) (l : List (UInt8 × List UInt8)) (s : UInt8 × List UInt8) (hn : l.length ≤ 255) :
  PFun Tryd.prog W0 6 [.one (.ro full 2 (l.map shPV)), .agg (shPV s)] (.sv (.one (pbool (l.contains s)))) := by
 intro h
 refine pcalls2 (n := 9) Tryd.func6 rfl nm6 rfl fun hb => ?_
 refine pwp_then fun N1 hN1 => ?_
 refine pwp_reg fun R2 hR2 => ?_
 refine pops_to rfl fun M hM => ?_
 simp only [pop, St.eval, constSlot, upd_at, Nat.reduceEqDiff, if_true, if_false, popBox, popBoxRo, slotCells, shPV]
 refine .inr ⟨Nat.succ_pos _, hM _ _ ?_⟩
 clear hM M
 refine pops_mv (.inr rfl) rfl (by simp only [St.eval, constSlot] <;> rfl) ?_
 refine pops_done (hR2 _ ?_)
 clear hR2 R2
 try simp only [thenK, scopeK]
 refine hN1 _ ?_
 clear hN1 N1
 refine pwp_then fun N3 hN3 => ?_
 refine pwp_reg fun R4 hR4 => ?_
 refine pops_mv (.inl rfl) rfl (by simp only [St.eval, upd_at, Nat.reduceEqDiff, if_true, if_false, shPV] <;> rfl) ?_
 refine pops_to rfl fun M hM => ?_
 simp only [pop, St.eval, constSlot, upd_at, Nat.reduceEqDiff, if_true, if_false, List.length_cons, List.length_nil, Nat.zero_add, Nat.reduceAdd, Nat.reduceLeDiff, List.take_zero, List.take_succ_cons, List.take_nil, List.drop_succ_cons, List.drop_zero, List.drop_nil, List.nil_append, List.cons_append, List.append_nil, and_self, List.getElem?_cons_zero, List.getElem?_cons_succ, List.set_cons_zero, List.set_cons_succ, Option.some.injEq, popLoad, loadK, isAggD, List.drop_zero, List.getElem?_toArray, List.getElem?_cons_zero, List.getElem?_cons_succ, Bool.false_eq_true, Tryd.underlying30, sz30, eq_self, true_and, and_true, shPV]
 refine hM _ _ ?_
 clear hM M
 refine pops_to rfl fun M hM => ?_
 simp only [pop, St.eval, constSlot, upd_at, Nat.reduceEqDiff, if_true, if_false, popCall, List.toList_toArray, List.map_cons, List.map_nil, svs, List.mapM_cons, List.mapM_nil, Option.bind_eq_bind, Option.bind_some, Option.pure_def, List.append_nil, List.cons_append, List.nil_append, str_size, shPV]
 refine PFun.use (indexSh_fun W0 full l s hn) fun h1 s1 => hM _ _ ?_
 replace s1 := Same.trans (Same.refl _) s1
 clear hM M
 refine pops_to rfl fun M hM => ?_
 simp only [pop, St.eval, constSlot, upd_at, Nat.reduceEqDiff, if_true, if_false, popBin, binK, intK, strK, eqK, eq_self, true_and, and_true, shPV]
 refine hM _ _ ?_
 clear hM M
 refine pops_mv (.inr rfl) rfl (by simp only [St.eval, upd_at, Nat.reduceEqDiff, if_true, if_false, shPV] <;> rfl) ?_
 refine pops_done (hR4 _ ?_)
 clear hR4 R4
 try simp only [thenK, scopeK]
 refine hN3 _ ?_
 clear hN3 N3
 refine pwp_ret ?_
 simp only [thenK, blockK, scopeK, bodyK]
 refine ⟨_, rfl, endFun s1 ?_⟩
 try simp only [upd_at, Nat.reduceEqDiff, if_true, if_false, shPV]
 all_goals
  rw [← idx_has]
end Go.Pw
