import Derived.Test.YtodafniobppglaaDoorAgesR
namespace Go.Pw
open Go Go.RowKit Go.Proofs
set_option maxRecDepth 100000
set_option linter.unusedSimpArgs false
set_option linter.unusedVariables false

def puX (d : List UInt8) : PV := if puB d then .ifn else .val .nilIface
theorem nil_neq {P : Program} {t : TypeId} {ms : Array (String × TypeId)} {b : Bool} {p q : PV} {N : Value → Prop} (hi : P.underlying t = some (.interface ms)) (hq : q = if b then p else .val .nilIface) (hp : p = .ifn ∨ ∃ te ag ps, p = .ifc te ag ps) (H : N (.bool b)) :
    popNil P t .neq (.sv (.one q)) N := by
  subst hq
  refine ⟨⟨ms, hi⟩, ?_⟩
  cases b with
  | false => exact H
  | true =>
    rcases hp with rfl | ⟨te, ag, ps, rfl⟩
    · exact H
    · exact H
def ixOK (w : List UInt8) (z : Int) : Prop := (z = -1 ∧ ∀ k : Nat, UW[k]? ≠ some w) ∨ ∃ k : Nat, z = k ∧ UW[k]? = some w
theorem uw_none {w : List UInt8} (h : ∀ m < 8, UW.getD m [] ≠ w) : ∀ k : Nat, UW[k]? ≠ some w := fun k hk => h k (List.getElem?_eq_some_iff.1 hk).1 (by rw [List.getD_eq_getElem?_getD, hk]; rfl)
theorem uwr_at {k : Nat} (h : k < 8) : UWR[k]? = some [pstr (UW.getD k [])] := by
  match k, h with
  | 0, _ => rfl
  | 1, _ => rfl
  | 2, _ => rfl
  | 3, _ => rfl
  | 4, _ => rfl
  | 5, _ => rfl
  | 6, _ => rfl
  | 7, _ => rfl
theorem nm53 : (Tryd.f53.name == "runtime.NumGoroutine") = false := by kernel_rfl
theorem pub_fun (W0 : World) (hE : HasErr W0) (d : List UInt8) (hd : ∀ c ∈ d, digitB c = true) (hne : d ≠ []) (hs : d.length ≤ 281474976710656) :
  PFun Tryd.prog W0 53 [.one (pstr d), .one (pint 10), .one (pint 63)] (.tup [.one (.val (.int .u64 (puV d : Nat))), .one (puX d)]) := by
 intro h
 refine pcalls3 (n := 26) Tryd.func53 rfl nm53 rfl fun hb => ?_
 refine pwp_then fun N1 hN1 => ?_
 refine pwp_reg fun R2 hR2 => ?_
 refine pops_mv (.inr rfl) rfl (by simp only [St.eval, constSlot] <;> rfl) ?_
 refine pops_mv (.inr rfl) rfl (by simp only [St.eval, constSlot] <;> rfl) ?_
 refine pops_done (hR2 _ ?_)
 clear hR2 R2
 try simp only [thenK, scopeK]
 refine hN1 _ ?_
 clear hN1 N1
 refine pwp_then fun N3 hN3 => ?_
 refine pwp_reg fun R4 hR4 => ?_
 refine pops_mv (.inl rfl) rfl (by simp only [St.eval, upd_at, Nat.reduceEqDiff, if_true, if_false] <;> rfl) ?_
 refine pops_mv (.inl rfl) rfl (by simp only [St.eval, upd_at, Nat.reduceEqDiff, if_true, if_false] <;> rfl) ?_
 refine pops_mv (.inl rfl) rfl (by simp only [St.eval, upd_at, Nat.reduceEqDiff, if_true, if_false] <;> rfl) ?_
 refine pops_to rfl fun M hM => ?_
 simp only [pop, St.eval, constSlot, upd_at, Nat.reduceEqDiff, if_true, if_false, popCall, List.toList_toArray, List.map_cons, List.map_nil, svs, List.mapM_cons, List.mapM_nil, Option.bind_eq_bind, Option.bind_some, Option.pure_def, List.append_nil, List.cons_append, List.nil_append, str_size]
 refine PFun.use (pu_fun W0 d hd hne (by omega)) fun h1 s1 => hM _ _ ?_
 replace s1 := Same.trans (Same.refl _) s1
 clear hM M
 refine pops_mv (.inl rfl) rfl (by simp only [St.eval, upd_at, Nat.reduceEqDiff, if_true, if_false] <;> rfl) ?_
 refine pops_to rfl fun M hM => ?_
 simp only [pop, St.eval, constSlot, upd_at, Nat.reduceEqDiff, if_true, if_false, List.getElem?_toArray, List.getElem?_cons_zero, List.getElem?_cons_succ]
 refine hM _ _ ?_
 clear hM M
 refine pops_to rfl fun M hM => ?_
 simp only [pop, St.eval, constSlot, upd_at, Nat.reduceEqDiff, if_true, if_false, List.getElem?_toArray, List.getElem?_cons_zero, List.getElem?_cons_succ]
 refine hM _ _ ?_
 clear hM M
 refine pops_mv (.inr rfl) rfl (by simp only [St.eval, upd_at, Nat.reduceEqDiff, if_true, if_false] <;> rfl) ?_
 refine pops_mv (.inr rfl) rfl (by simp only [St.eval, upd_at, Nat.reduceEqDiff, if_true, if_false] <;> rfl) ?_
 refine pops_done (hR4 _ ?_)
 clear hR4 R4
 try simp only [thenK, scopeK]
 refine hN3 _ ?_
 clear hN3 N3
 refine pwp_then fun N5 hN5 => ?_
 refine pwp_then fun N6 hN6 => ?_
 refine pwp_reg fun R7 hR7 => ?_
 refine pops_mv (.inl rfl) rfl (by simp only [St.eval, upd_at, Nat.reduceEqDiff, if_true, if_false] <;> rfl) ?_
 refine pops_to rfl fun M hM => ?_
 simp only [pop, St.eval, constSlot, upd_at, Nat.reduceEqDiff, if_true, if_false, eq_self, true_and, and_true]
 refine nil_neq Tryd.underlying77 (rfl : puE d = _) (.inr ⟨_, _, _, rfl⟩) (hM _ _ ?_)
 clear hM M
 refine pops_done (hR7 _ ?_)
 clear hR7 R7
 try simp only [thenK, scopeK]
 refine hN6 _ ?_
 clear hN6 N6
 refine pwp_cond (by simp only [St.eval, upd_at, Nat.reduceEqDiff, if_true, if_false] <;> rfl) (fun c18 => ?_) (fun c18 => ?_)
 ·skip
  have hE1 : puE d = .ifc 156 false [pint 1] := by rw [puE, c18]; rfl
  refine pwp_then fun N8 hN8 => ?_
  refine pwp_reg fun R9 hR9 => ?_
  refine pops_mv (.inl rfl) rfl (by simp only [St.eval, upd_at, Nat.reduceEqDiff, if_true, if_false, hE1] <;> rfl) ?_
  refine pops_mv (.inl rfl) rfl (by simp only [St.eval, upd_at, Nat.reduceEqDiff, if_true, if_false, hE1] <;> rfl) ?_
  refine pops_mv (.inl rfl) rfl (by simp only [St.eval, upd_at, Nat.reduceEqDiff, if_true, if_false, hE1] <;> rfl) ?_
  refine pops_mv (.inl rfl) rfl (by simp only [St.eval, upd_at, Nat.reduceEqDiff, if_true, if_false, hE1] <;> rfl) ?_
  refine pops_mv (.inl rfl) rfl (by simp only [St.eval, upd_at, Nat.reduceEqDiff, if_true, if_false, hE1] <;> rfl) ?_
  refine pops_to rfl fun M hM => ?_
  simp only [pop, St.eval, constSlot, upd_at, Nat.reduceEqDiff, if_true, if_false, popCall, List.toList_toArray, List.map_cons, List.map_nil, svs, List.mapM_cons, List.mapM_nil, Option.bind_eq_bind, Option.bind_some, Option.pure_def, List.append_nil, List.cons_append, List.nil_append, str_size, hE1]
  refine PFun.use (toError_fun W0 hE _ d 10 63 hs) fun h2 s2 => hM _ _ ?_
  replace s2 := Same.trans s1 s2
  clear hM M
  refine pops_mv (.inr rfl) rfl (by simp only [St.eval, upd_at, Nat.reduceEqDiff, if_true, if_false, hE1] <;> rfl) ?_
  refine pops_mv (.inr rfl) rfl (by simp only [St.eval, upd_at, Nat.reduceEqDiff, if_true, if_false, hE1] <;> rfl) ?_
  refine pops_done (hR9 _ ?_)
  clear hR9 R9
  try simp only [thenK, scopeK]
  refine hN8 _ ?_
  clear hN8 N8
  refine pwp_ret ?_
  simp only [thenK, blockK, scopeK, bodyK]
  clear hN5 N5
  refine ⟨_, rfl, endFun s2 ?_⟩
  try simp only [upd_at, Nat.reduceEqDiff, if_true, if_false, hE1]
  all_goals
   rw [puX, c18]; rfl
 ·skip
  refine pwp_skip ?_
  try simp only [thenK, scopeK]
  refine hN5 _ ?_
  clear hN5 N5
  refine pwp_then fun N10 hN10 => ?_
  refine pwp_reg fun R11 hR11 => ?_
  refine pops_mv (.inl rfl) rfl (by simp only [St.eval, upd_at, Nat.reduceEqDiff, if_true, if_false] <;> rfl) ?_
  refine pops_mv (.inr rfl) rfl (by simp only [St.eval, upd_at, Nat.reduceEqDiff, if_true, if_false] <;> rfl) ?_
  refine pops_mv (.inr rfl) rfl (by simp only [St.eval, constSlot] <;> rfl) ?_
  refine pops_done (hR11 _ ?_)
  clear hR11 R11
  try simp only [thenK, scopeK]
  refine hN10 _ ?_
  clear hN10 N10
  refine pwp_ret ?_
  simp only [thenK, blockK, scopeK, bodyK]
  refine ⟨_, rfl, endFun s1 ?_⟩
  try simp only [upd_at, Nat.reduceEqDiff, if_true, if_false]
  all_goals
   rw [puX, c18]; rfl

theorem nm52 : (Tryd.f52.name == "runtime.NumGoroutine") = false := by kernel_rfl
theorem ix_fun (W0 : World) (w : List UInt8) (h : Hp) :
  PCalls Tryd.prog W0 52 [.one (.ro true 1 UWR), .one (pstr w)] h (fun r h' => ∃ z : Int, r = .sv (.one (pint z)) ∧ ixOK w z ∧ Same h h') := by
 refine pcalls2 (n := 19) Tryd.func52 rfl nm52 rfl fun hb => ?_
 refine pwp_then fun N1 hN1 => ?_
 refine pwp_reg fun R2 hR2 => ?_
 refine pops_mv (.inr rfl) rfl (by simp only [St.eval, constSlot] <;> rfl) ?_
 refine pops_done (hR2 _ ?_)
 clear hR2 R2
 try simp only [thenK, scopeK]
 refine hN1 _ ?_
 clear hN1 N1
 refine pwp_then fun N3 hN3 => ?_
 refine pwp_then fun N4 hN4 => ?_
 refine pwp_reg fun R5 hR5 => ?_
 refine pops_mv (.inl rfl) rfl (by simp only [St.eval, upd_at, Nat.reduceEqDiff, if_true, if_false] <;> rfl) ?_
 refine pops_to rfl fun M hM => ?_
 simp only [pop, St.eval, constSlot, upd_at, Nat.reduceEqDiff, if_true, if_false, popCall, List.toList_toArray, List.map_cons, List.map_nil, popBuiltin, popLen, lenOfSlot, List.length_map, Tryd.underlying32, eq_self, true_and, and_true, str_list, str_size, str_app, str_cut, str_get]
 refine hM _ _ ?_
 clear hM M
 refine pops_mv (.inl rfl) rfl (by simp only [St.eval, constSlot] <;> rfl) ?_
 refine pops_done (hR5 _ ?_)
 clear hR5 R5
 try simp only [thenK, scopeK]
 refine hN4 _ ?_
 clear hN4 N4
 refine pwp_block ?_
 refine pwp_loop (fun k σ => ∃ (i : Nat), (k = 8 - i) ∧ (i ≤ 8) ∧ (∀ m < i, UW.getD m [] ≠ w) ∧ (Same h σ.hp) ∧ (σ.env 0 = .sv (.one (.ro true 1 UWR))) ∧ (σ.env 1 = .sv (.one (pstr w))) ∧ (σ.env 6 = .sv (.one (.ro true 1 UWR))) ∧ (σ.env 7 = .sv (.one (pint (UWR.length : Nat)))) ∧ (σ.env 8 = .sv (.one (pint (i : Nat))))) _ ⟨_, .refl _ _, 0, rfl, ?_⟩ ?_
 · exact ⟨Nat.zero_le _, by intro m hm; omega, (Same.refl _), by simp only [upd_at, Nat.reduceEqDiff, if_true, if_false], by simp only [upd_at, Nat.reduceEqDiff, if_true, if_false], by simp only [upd_at, Nat.reduceEqDiff, if_true, if_false], by simp only [upd_at, Nat.reduceEqDiff, if_true, if_false] <;> rfl, by simp only [upd_at, Nat.reduceEqDiff, if_true, if_false]; rfl⟩
 ·rintro k ⟨e, hp0⟩ ⟨i, hk0, hx0_0, hx0_1, sl0, e0_0, e0_1, e0_6, e0_7, e0_8⟩
  simp only at sl0 e0_0 e0_1 e0_6 e0_7 e0_8
  refine pwp_then fun N6 hN6 => ?_
  refine pwp_reg fun R7 hR7 => ?_
  refine pops_to rfl fun M hM => ?_
  simp only [pop, St.eval, constSlot, upd_at, Nat.reduceEqDiff, if_true, if_false, popBin, binK, intK, strK, eqK, eq_self, true_and, and_true, e0_0, e0_1, e0_6, e0_7, e0_8]
  refine hM _ _ ?_
  clear hM M
  refine pops_done (hR7 _ ?_)
  clear hR7 R7
  try simp only [thenK, scopeK]
  refine hN6 _ ?_
  clear hN6 N6
  refine pwp_then fun N8 hN8 => ?_
  refine pwp_cond (by simp only [St.eval, upd_at, Nat.reduceEqDiff, if_true, if_false, e0_0, e0_1, e0_6, e0_7, e0_8] <;> rfl) (fun c9 => ?_) (fun c9 => ?_)
  ·skip
   have hi : i < 8 := by have := of_decide_eq_true c9; simp only [List.length_cons, List.length_nil] at this; omega
   have hget := uwr_at hi
   refine pwp_skip ?_
   try simp only [thenK, scopeK]
   refine hN8 _ ?_
   clear hN8 N8
   refine pwp_then fun N9 hN9 => ?_
   refine pwp_block ?_
   refine pwp_then fun N10 hN10 => ?_
   refine pwp_reg fun R11 hR11 => ?_
   refine pops_mv (.inl rfl) rfl (by simp only [St.eval, upd_at, Nat.reduceEqDiff, if_true, if_false, e0_0, e0_1, e0_6, e0_7, e0_8] <;> rfl) ?_
   refine pops_mv (.inr rfl) rfl (by simp only [St.eval, upd_at, Nat.reduceEqDiff, if_true, if_false, e0_0, e0_1, e0_6, e0_7, e0_8] <;> rfl) ?_
   refine pops_done (hR11 _ ?_)
   clear hR11 R11
   try simp only [thenK, scopeK]
   refine hN10 _ ?_
   clear hN10 N10
   refine pwp_then fun N12 hN12 => ?_
   refine pwp_reg fun R13 hR13 => ?_
   refine pops_mv (.inl rfl) rfl (by simp only [St.eval, upd_at, Nat.reduceEqDiff, if_true, if_false, e0_0, e0_1, e0_6, e0_7, e0_8] <;> rfl) ?_
   refine pops_mv (.inl rfl) rfl (by simp only [St.eval, upd_at, Nat.reduceEqDiff, if_true, if_false, e0_0, e0_1, e0_6, e0_7, e0_8] <;> rfl) ?_
   refine pops_mv (.inl rfl) rfl (by simp only [St.eval, upd_at, Nat.reduceEqDiff, if_true, if_false, e0_0, e0_1, e0_6, e0_7, e0_8] <;> rfl) ?_
   refine pops_to rfl fun M hM => ?_
   simp only [pop, St.eval, constSlot, upd_at, Nat.reduceEqDiff, if_true, if_false, popIndexAddr, Tryd.underlying32, sz9, eq_self, true_and, and_true, str_list, str_size, str_app, str_cut, str_get, e0_0, e0_1, e0_6, e0_7, e0_8, hget, Int.toNat_natCast]
   refine ⟨Int.natCast_nonneg _, hM _ _ ?_⟩
   clear hM M
   refine pops_to rfl fun M hM => ?_
   simp only [pop, St.eval, constSlot, upd_at, Nat.reduceEqDiff, if_true, if_false, popLoad, loadK, isAggD, List.drop_zero, List.getElem?_toArray, List.getElem?_cons_zero, List.getElem?_cons_succ, Bool.false_eq_true, Tryd.underlying9, sz9, eq_self, true_and, and_true, e0_0, e0_1, e0_6, e0_7, e0_8]
   refine hM _ _ ?_
   clear hM M
   refine pops_to rfl fun M hM => ?_
   simp only [pop, St.eval, constSlot, upd_at, Nat.reduceEqDiff, if_true, if_false, popBin, binK, intK, strK, eqK, Tryd.underlying9, isPtr, eq_self, true_and, and_true, str_list, str_size, str_app, str_cut, str_get, e0_0, e0_1, e0_6, e0_7, e0_8]
   refine hM _ _ ?_
   clear hM M
   refine pops_done (hR13 _ ?_)
   clear hR13 R13
   try simp only [thenK, scopeK]
   refine hN12 _ ?_
   clear hN12 N12
   refine pwp_cond (by simp only [St.eval, upd_at, Nat.reduceEqDiff, if_true, if_false, e0_0, e0_1, e0_6, e0_7, e0_8] <;> rfl) (fun c16 => ?_) (fun c16 => ?_)
   ·skip
    have h16 : w = UW.getD i [] := by simpa using c16
    refine pwp_then fun N14 hN14 => ?_
    refine pwp_reg fun R15 hR15 => ?_
    refine pops_mv (.inl rfl) rfl (by simp only [St.eval, upd_at, Nat.reduceEqDiff, if_true, if_false, e0_0, e0_1, e0_6, e0_7, e0_8] <;> rfl) ?_
    refine pops_mv (.inr rfl) rfl (by simp only [St.eval, upd_at, Nat.reduceEqDiff, if_true, if_false, e0_0, e0_1, e0_6, e0_7, e0_8] <;> rfl) ?_
    refine pops_done (hR15 _ ?_)
    clear hR15 R15
    try simp only [thenK, scopeK]
    refine hN14 _ ?_
    clear hN14 N14
    refine pwp_ret ?_
    simp only [thenK, blockK, scopeK, bodyK]
    clear hN9 N9 hN3 N3
    refine ⟨_, rfl, ?_⟩
    try simp only [upd_at, Nat.reduceEqDiff, if_true, if_false, e0_0, e0_1, e0_6, e0_7, e0_8]
    exact ⟨_, _, .refl _ _ _, _, rfl, .inr ⟨i, rfl, by rw [(ur_at hi).2, ← h16]⟩, sl0⟩
   ·skip
    have h16 : UW.getD i [] ≠ w := by
      intro e
      rw [e] at c16
      simp at c16
    refine pwp_skip ?_
    try simp only [blockK, thenK, scopeK]
    try simp only [thenK, scopeK]
    refine hN9 _ ?_
    clear hN9 N9
    refine pwp_reg fun R16 hR16 => ?_
    refine pops_to rfl fun M hM => ?_
    simp only [pop, St.eval, constSlot, upd_at, Nat.reduceEqDiff, if_true, if_false, popBin, binK, intK, strK, eqK, eq_self, true_and, and_true, e0_0, e0_1, e0_6, e0_7, e0_8]
    refine hM _ _ ?_
    clear hM M
    refine pops_mv (.inl rfl) rfl (by simp only [St.eval, upd_at, Nat.reduceEqDiff, if_true, if_false, e0_0, e0_1, e0_6, e0_7, e0_8] <;> rfl) ?_
    refine pops_done (hR16 _ ?_)
    clear hR16 R16
    try simp only [thenK, scopeK]
    exact ⟨_, by omega, _, .refl _ _, i + 1, rfl, by omega, by
      intro m hm
      rcases Nat.lt_succ_iff_lt_or_eq.1 hm with h | rfl
      · exact hx0_1 m h
      · exact h16, sl0, by simp only [upd_at, Nat.reduceEqDiff, if_true, if_false, e0_0, e0_1, e0_6, e0_7, e0_8], by simp only [upd_at, Nat.reduceEqDiff, if_true, if_false, e0_0, e0_1, e0_6, e0_7, e0_8], by simp only [upd_at, Nat.reduceEqDiff, if_true, if_false, e0_0, e0_1, e0_6, e0_7, e0_8], by simp only [upd_at, Nat.reduceEqDiff, if_true, if_false, e0_0, e0_1, e0_6, e0_7, e0_8], by simp only [upd_at, Nat.reduceEqDiff, if_true, if_false, e0_8]; rw [wrap_succ (by omega)]⟩
  ·skip
   have hi : ¬ i < 8 := by have := of_decide_eq_false c9; simp only [List.length_cons, List.length_nil] at this; omega
   refine pwp_exit ?_
   try simp only [thenK, blockK, scopeK, if_true, Nat.reduceEqDiff, if_false]
   clear hN8 N8
   try simp only [blockK, scopeK, if_true, Nat.reduceEqDiff, if_false, thenK]
   try simp only [thenK, scopeK]
   refine hN3 _ ?_
   clear hN3 N3
   refine pwp_then fun N17 hN17 => ?_
   refine pwp_reg fun R18 hR18 => ?_
   refine pops_mv (.inr rfl) rfl (by simp only [St.eval, constSlot] <;> rfl) ?_
   refine pops_done (hR18 _ ?_)
   clear hR18 R18
   try simp only [thenK, scopeK]
   refine hN17 _ ?_
   clear hN17 N17
   refine pwp_ret ?_
   simp only [thenK, blockK, scopeK, bodyK]
   refine ⟨_, rfl, ?_⟩
   try simp only [upd_at, Nat.reduceEqDiff, if_true, if_false, e0_0, e0_1, e0_6, e0_7, e0_8]
   exact ⟨_, _, .refl _ _ _, _, rfl, .inl ⟨rfl, uw_none fun m hm => hx0_1 m (by omega)⟩, sl0⟩
end Go.Pw
