import Derived.Test.YtjhgmempnhjflaaDoorEncF
import Derived.Test.YtjhgmempnhjflaaDoorEncD2
import Derived.Test.YtjhgmempnhjflaaDoorEncA2
namespace Go.Pw
open Go Go.RowKit Go.Proofs
set_option maxRecDepth 100000
set_option linter.unusedSimpArgs false
set_option linter.unusedVariables false
theorem sz70 : szOf Tryd.prog 70 = some 1 := by kernel_rfl
theorem ze70 : zeroOf Tryd.prog 70 = some .nilFunc := by kernel_rfl
theorem nm51 : (Tryd.f51.name == "runtime.NumGoroutine") = false := by kernel_rfl
theorem inC_fun (W0 : World) (l : List UInt8) (c : UInt8) :
  PFun Tryd.prog W0 51 [.one (pstr l), .one (.val (.int .u8 c.toNat))] (.sv (.one (pbool (l.contains c)))) := by
 intro h
 refine pcalls2 (n := 9) Tryd.func51 rfl nm51 rfl fun hb => ?_
 refine pwp_then fun N1 hN1 => ?_
 refine pwp_reg fun R2 hR2 => ?_
 refine pops_mv (.inr rfl) rfl (by simp only [St.eval, constSlot] <;> rfl) ?_
 refine pops_done (hR2 _ ?_)
 clear hR2 R2
 try simp only [thenK, scopeK]
 refine hN1 _ ?_
 clear hN1 N1
 refine pwp_then fun N3 hN3 => ?_
 refine pwp_reg fun R4 hR4 => ?_
 refine pops_mv (.inl rfl) rfl (by simp only [St.eval, upd_at, Nat.reduceEqDiff, if_true, if_false] <;> rfl) ?_
 refine pops_mv (.inl rfl) rfl (by simp only [St.eval, upd_at, Nat.reduceEqDiff, if_true, if_false] <;> rfl) ?_
 refine pops_to rfl fun M hM => ?_
 simp only [pop, St.eval, constSlot, upd_at, Nat.reduceEqDiff, if_true, if_false, popCall, List.toList_toArray, List.map_cons, List.map_nil, svs, List.mapM_cons, List.mapM_nil, Option.bind_eq_bind, Option.bind_some, Option.pure_def, List.append_nil, List.cons_append, List.nil_append, str_size]
 refine PFun.use (indexByte_fun W0 l c) fun h1 s1 => hM _ _ ?_
 replace s1 := Same.trans (Same.refl _) s1
 clear hM M
 refine pops_to rfl fun M hM => ?_
 simp only [pop, St.eval, constSlot, upd_at, Nat.reduceEqDiff, if_true, if_false, popBin, binK, intK, strK, eqK, eq_self, true_and, and_true]
 refine hM _ _ ?_
 clear hM M
 refine pops_mv (.inr rfl) rfl (by simp only [St.eval, upd_at, Nat.reduceEqDiff, if_true, if_false] <;> rfl) ?_
 refine pops_done (hR4 _ ?_)
 clear hR4 R4
 try simp only [thenK, scopeK]
 refine hN3 _ ?_
 clear hN3 N3
 refine pwp_ret ?_
 simp only [thenK, blockK, scopeK, bodyK]
 refine ⟨_, rfl, endFun s1 ?_⟩
 try simp only [upd_at, Nat.reduceEqDiff, if_true, if_false]
 all_goals
  rw [ix_dec]

theorem nm55 : (Tryd.f55.name == "runtime.NumGoroutine") = false := by kernel_rfl
theorem forbidC_fun (W0 : World) (x : Enc) (c : UInt8) :
  PFun Tryd.prog W0 55 [.one (.val (.int .u8 c.toNat)), .one (.rop [.clo (.func 51) []]), .one (.rop (encPV x))] (.sv (.one (pbool (x.forbid.contains c)))) := by
 intro h
 refine pcalls3 (n := 10) Tryd.func55 rfl nm55 rfl fun hb => ?_
 refine pwp_then fun N1 hN1 => ?_
 refine pwp_reg fun R2 hR2 => ?_
 refine pops_mv (.inr rfl) rfl (by simp only [St.eval, constSlot] <;> rfl) ?_
 refine pops_done (hR2 _ ?_)
 clear hR2 R2
 try simp only [thenK, scopeK]
 refine hN1 _ ?_
 clear hN1 N1
 refine pwp_then fun N3 hN3 => ?_
 refine pwp_reg fun R4 hR4 => ?_
 refine pops_to rfl fun M hM => ?_
 simp only [pop, St.eval, constSlot, upd_at, Nat.reduceEqDiff, if_true, if_false, popLoad, loadK, isAggD, List.drop_zero, List.getElem?_toArray, List.getElem?_cons_zero, List.getElem?_cons_succ, Bool.false_eq_true, Tryd.underlying70, sz70, eq_self, true_and, and_true, encPV]
 refine hM _ _ ?_
 clear hM M
 refine pops_to rfl fun M hM => ?_
 simp only [pop, St.eval, constSlot, upd_at, Nat.reduceEqDiff, if_true, if_false, popFieldAddr, fieldOf, List.drop_succ_cons, List.drop_zero, List.getElem?_toArray, List.getElem?_cons_zero, List.getElem?_cons_succ, Tryd.underlying64, sz9, encPV]
 refine ⟨⟨_, rfl⟩, hM _ _ ?_⟩
 clear hM M
 refine pops_to rfl fun M hM => ?_
 simp only [pop, St.eval, constSlot, upd_at, Nat.reduceEqDiff, if_true, if_false, popLoad, loadK, isAggD, List.drop_zero, List.getElem?_toArray, List.getElem?_cons_zero, List.getElem?_cons_succ, Bool.false_eq_true, Tryd.underlying9, sz9, eq_self, true_and, and_true, encPV]
 refine hM _ _ ?_
 clear hM M
 refine pops_mv (.inl rfl) rfl (by simp only [St.eval, upd_at, Nat.reduceEqDiff, if_true, if_false, encPV] <;> rfl) ?_
 refine pops_to rfl fun M hM => ?_
 simp only [pop, St.eval, constSlot, upd_at, Nat.reduceEqDiff, if_true, if_false, popCall, List.toList_toArray, List.map_cons, List.map_nil, svs, List.mapM_cons, List.mapM_nil, Option.bind_eq_bind, Option.bind_some, Option.pure_def, List.append_nil, List.cons_append, List.nil_append, str_size, encPV]
 refine PFun.use (inC_fun W0 x.forbid c) fun h1 s1 => hM _ _ ?_
 replace s1 := Same.trans (Same.refl _) s1
 clear hM M
 refine pops_mv (.inr rfl) rfl (by simp only [St.eval, upd_at, Nat.reduceEqDiff, if_true, if_false, encPV] <;> rfl) ?_
 refine pops_done (hR4 _ ?_)
 clear hR4 R4
 try simp only [thenK, scopeK]
 refine hN3 _ ?_
 clear hN3 N3
 refine pwp_ret ?_
 simp only [thenK, blockK, scopeK, bodyK]
 refine ⟨_, rfl, endFun s1 ?_⟩
 try simp only [upd_at, Nat.reduceEqDiff, if_true, if_false, encPV]
 all_goals
  rfl

theorem nm92 : (Tryd.f92.name == "runtime.NumGoroutine") = false := by kernel_rfl
theorem indexFuncB_rel (W0 : World) (f : FuncId) (caps : List PV) (p : UInt8 → Bool) (full : Bool) (l : List UInt8) (hp : ∀ c ∈ l, PFun Tryd.prog W0 f (.one (.val (.int .u8 c.toNat)) :: caps.map .one) (.sv (.one (pbool (p c))))) (hn : l.length ≤ 9223372036854775807) (h : Hp) :
  PCalls Tryd.prog W0 92 [.one (.ro full 1 (l.map byteCell)), .one (.clo (.func f) caps)] h (fun r h' => ∃ z, r = .sv (.one (pint z)) ∧ (0 ≤ z ↔ ∃ c ∈ l, p c = true) ∧ Same h h') := by
 refine pcalls2 (n := 19) Tryd.func92 rfl nm92 rfl fun hb => ?_
 refine pwp_then fun N1 hN1 => ?_
 refine pwp_reg fun R2 hR2 => ?_
 refine pops_mv (.inr rfl) rfl (by simp only [St.eval, constSlot] <;> rfl) ?_
 refine pops_done (hR2 _ ?_)
 clear hR2 R2
 try simp only [thenK, scopeK]
 refine hN1 _ ?_
 clear hN1 N1
 refine pwp_then fun N3 hN3 => ?_
 refine pwp_then fun N4 hN4 => ?_
 refine pwp_reg fun R5 hR5 => ?_
 refine pops_mv (.inl rfl) rfl (by simp only [St.eval, upd_at, Nat.reduceEqDiff, if_true, if_false] <;> rfl) ?_
 refine pops_to rfl fun M hM => ?_
 simp only [pop, St.eval, constSlot, upd_at, Nat.reduceEqDiff, if_true, if_false, popCall, List.toList_toArray, List.map_cons, List.map_nil, popBuiltin, popLen, lenOfSlot, List.length_map, Tryd.underlying73, eq_self, true_and, and_true, str_list, str_size, str_app, str_cut, str_get]
 refine hM _ _ ?_
 clear hM M
 refine pops_mv (.inl rfl) rfl (by simp only [St.eval, constSlot] <;> rfl) ?_
 refine pops_done (hR5 _ ?_)
 clear hR5 R5
 try simp only [thenK, scopeK]
 refine hN4 _ ?_
 clear hN4 N4
 refine pwp_block ?_
 refine pwp_loop (fun k σ => ∃ (i : Nat), (k = l.length - i) ∧ (i ≤ l.length) ∧ (∀ c ∈ l.take i, p c = false) ∧ (Same h σ.hp) ∧ (σ.env 0 = .sv (.one (.ro full 1 (l.map byteCell)))) ∧ (σ.env 1 = .sv (.one (.clo (.func f) caps))) ∧ (σ.env 6 = .sv (.one (.ro full 1 (l.map byteCell)))) ∧ (σ.env 7 = .sv (.one (pint (l.length : Nat)))) ∧ (σ.env 8 = .sv (.one (pint (i : Nat))))) _ ⟨_, .refl _ _, 0, rfl, ?_⟩ ?_
 · exact ⟨Nat.zero_le _, by simp, (Same.refl _), by simp only [upd_at, Nat.reduceEqDiff, if_true, if_false], by simp only [upd_at, Nat.reduceEqDiff, if_true, if_false], by simp only [upd_at, Nat.reduceEqDiff, if_true, if_false], by simp only [upd_at, Nat.reduceEqDiff, if_true, if_false], by simp only [upd_at, Nat.reduceEqDiff, if_true, if_false]; rfl⟩
 ·rintro k ⟨e, hp0⟩ ⟨i, hk0, hx0_0, hx0_1, sl0, e0_0, e0_1, e0_6, e0_7, e0_8⟩
  simp only at sl0 e0_0 e0_1 e0_6 e0_7 e0_8
  refine pwp_then fun N6 hN6 => ?_
  refine pwp_reg fun R7 hR7 => ?_
  refine pops_to rfl fun M hM => ?_
  simp only [pop, St.eval, constSlot, upd_at, Nat.reduceEqDiff, if_true, if_false, popBin, binK, intK, strK, eqK, eq_self, true_and, and_true, e0_0, e0_1, e0_6, e0_7, e0_8]
  refine hM _ _ ?_
  clear hM M
  refine pops_done (hR7 _ ?_)
  clear hR7 R7
  try simp only [thenK, scopeK]
  refine hN6 _ ?_
  clear hN6 N6
  refine pwp_then fun N8 hN8 => ?_
  refine pwp_cond (by simp only [St.eval, upd_at, Nat.reduceEqDiff, if_true, if_false, e0_0, e0_1, e0_6, e0_7, e0_8] <;> rfl) (fun c9 => ?_) (fun c9 => ?_)
  ·skip
   have hi : i < l.length := by have := of_decide_eq_true c9; omega
   obtain ⟨c, hx⟩ : ∃ c, l[i]? = some c := ⟨_, List.getElem?_eq_getElem hi⟩
   have hget : (l.map byteCell)[i]? = some [.val (.int .u8 c.toNat)] := by simp only [List.getElem?_map, hx, Option.map_some, byteCell]
   refine pwp_skip ?_
   try simp only [thenK, scopeK]
   refine hN8 _ ?_
   clear hN8 N8
   refine pwp_then fun N9 hN9 => ?_
   refine pwp_block ?_
   refine pwp_then fun N10 hN10 => ?_
   refine pwp_reg fun R11 hR11 => ?_
   refine pops_mv (.inl rfl) rfl (by simp only [St.eval, upd_at, Nat.reduceEqDiff, if_true, if_false, e0_0, e0_1, e0_6, e0_7, e0_8, hget, Int.toNat_natCast] <;> rfl) ?_
   refine pops_mv (.inr rfl) rfl (by simp only [St.eval, upd_at, Nat.reduceEqDiff, if_true, if_false, e0_0, e0_1, e0_6, e0_7, e0_8, hget, Int.toNat_natCast] <;> rfl) ?_
   refine pops_done (hR11 _ ?_)
   clear hR11 R11
   try simp only [thenK, scopeK]
   refine hN10 _ ?_
   clear hN10 N10
   refine pwp_then fun N12 hN12 => ?_
   refine pwp_reg fun R13 hR13 => ?_
   refine pops_mv (.inl rfl) rfl (by simp only [St.eval, upd_at, Nat.reduceEqDiff, if_true, if_false, e0_0, e0_1, e0_6, e0_7, e0_8, hget, Int.toNat_natCast] <;> rfl) ?_
   refine pops_mv (.inl rfl) rfl (by simp only [St.eval, upd_at, Nat.reduceEqDiff, if_true, if_false, e0_0, e0_1, e0_6, e0_7, e0_8, hget, Int.toNat_natCast] <;> rfl) ?_
   refine pops_mv (.inl rfl) rfl (by simp only [St.eval, upd_at, Nat.reduceEqDiff, if_true, if_false, e0_0, e0_1, e0_6, e0_7, e0_8, hget, Int.toNat_natCast] <;> rfl) ?_
   refine pops_to rfl fun M hM => ?_
   simp only [pop, St.eval, constSlot, upd_at, Nat.reduceEqDiff, if_true, if_false, popIndexAddr, Tryd.underlying73, sz5, eq_self, true_and, and_true, str_list, str_size, str_app, str_cut, str_get, e0_0, e0_1, e0_6, e0_7, e0_8, hget, Int.toNat_natCast]
   refine ⟨Int.natCast_nonneg _, hM _ _ ?_⟩
   clear hM M
   refine pops_to rfl fun M hM => ?_
   simp only [pop, St.eval, constSlot, upd_at, Nat.reduceEqDiff, if_true, if_false, popLoad, loadK, isAggD, List.drop_zero, List.getElem?_toArray, List.getElem?_cons_zero, List.getElem?_cons_succ, Bool.false_eq_true, Tryd.underlying5, sz5, eq_self, true_and, and_true, e0_0, e0_1, e0_6, e0_7, e0_8, hget, Int.toNat_natCast]
   refine hM _ _ ?_
   clear hM M
   refine pops_to rfl fun M hM => ?_
   simp only [pop, St.eval, constSlot, upd_at, Nat.reduceEqDiff, if_true, if_false, popCall, List.toList_toArray, List.map_cons, List.map_nil, svs, List.mapM_cons, List.mapM_nil, Option.bind_eq_bind, Option.bind_some, Option.pure_def, List.append_nil, List.cons_append, List.nil_append, str_size, e0_0, e0_1, e0_6, e0_7, e0_8, hget, Int.toNat_natCast]
   refine PFun.use (hp c (List.mem_of_getElem? hx)) fun h1 s1 => hM _ _ ?_
   replace s1 := Same.trans sl0 s1
   clear hM M
   refine pops_done (hR13 _ ?_)
   clear hR13 R13
   try simp only [thenK, scopeK]
   refine hN12 _ ?_
   clear hN12 N12
   refine pwp_cond (by simp only [St.eval, upd_at, Nat.reduceEqDiff, if_true, if_false, e0_0, e0_1, e0_6, e0_7, e0_8, hget, Int.toNat_natCast] <;> rfl) (fun c16 => ?_) (fun c16 => ?_)
   ·skip
    refine pwp_then fun N14 hN14 => ?_
    refine pwp_reg fun R15 hR15 => ?_
    refine pops_mv (.inl rfl) rfl (by simp only [St.eval, upd_at, Nat.reduceEqDiff, if_true, if_false, e0_0, e0_1, e0_6, e0_7, e0_8, hget, Int.toNat_natCast] <;> rfl) ?_
    refine pops_mv (.inr rfl) rfl (by simp only [St.eval, upd_at, Nat.reduceEqDiff, if_true, if_false, e0_0, e0_1, e0_6, e0_7, e0_8, hget, Int.toNat_natCast] <;> rfl) ?_
    refine pops_done (hR15 _ ?_)
    clear hR15 R15
    try simp only [thenK, scopeK]
    refine hN14 _ ?_
    clear hN14 N14
    refine pwp_ret ?_
    simp only [thenK, blockK, scopeK, bodyK]
    clear hN9 N9 hN3 N3
    refine ⟨_, rfl, ?_⟩
    try simp only [upd_at, Nat.reduceEqDiff, if_true, if_false, e0_0, e0_1, e0_6, e0_7, e0_8, hget, Int.toNat_natCast]
    exact ⟨_, _, .refl _ _ _, _, rfl, ⟨fun _ => ⟨c, List.mem_of_getElem? hx, c16⟩, fun _ => Int.natCast_nonneg _⟩, s1⟩
   ·skip
    refine pwp_skip ?_
    try simp only [blockK, thenK, scopeK]
    try simp only [thenK, scopeK]
    refine hN9 _ ?_
    clear hN9 N9
    refine pwp_reg fun R16 hR16 => ?_
    refine pops_to rfl fun M hM => ?_
    simp only [pop, St.eval, constSlot, upd_at, Nat.reduceEqDiff, if_true, if_false, popBin, binK, intK, strK, eqK, eq_self, true_and, and_true, e0_0, e0_1, e0_6, e0_7, e0_8, hget, Int.toNat_natCast]
    refine hM _ _ ?_
    clear hM M
    refine pops_mv (.inl rfl) rfl (by simp only [St.eval, upd_at, Nat.reduceEqDiff, if_true, if_false, e0_0, e0_1, e0_6, e0_7, e0_8, hget, Int.toNat_natCast] <;> rfl) ?_
    refine pops_done (hR16 _ ?_)
    clear hR16 R16
    try simp only [thenK, scopeK]
    exact ⟨_, by omega, _, .refl _ _, i + 1, rfl, by omega, by rw [List.take_add_one, hx]; simp only [Option.toList_some, List.mem_append, List.mem_singleton]; rintro y (hy | rfl); exact hx0_1 y hy; exact c16, s1, by simp only [upd_at, Nat.reduceEqDiff, if_true, if_false, e0_0, e0_1, e0_6, e0_7, e0_8, hget, Int.toNat_natCast], by simp only [upd_at, Nat.reduceEqDiff, if_true, if_false, e0_0, e0_1, e0_6, e0_7, e0_8, hget, Int.toNat_natCast], by simp only [upd_at, Nat.reduceEqDiff, if_true, if_false, e0_0, e0_1, e0_6, e0_7, e0_8, hget, Int.toNat_natCast], by simp only [upd_at, Nat.reduceEqDiff, if_true, if_false, e0_0, e0_1, e0_6, e0_7, e0_8, hget, Int.toNat_natCast], by simp only [upd_at, Nat.reduceEqDiff, if_true, if_false, e0_8]; rw [wrap_succ (by omega)]⟩
  ·skip
   have hi := of_decide_eq_false c9
   refine pwp_exit ?_
   try simp only [thenK, blockK, scopeK, if_true, Nat.reduceEqDiff, if_false]
   clear hN8 N8
   try simp only [blockK, scopeK, if_true, Nat.reduceEqDiff, if_false, thenK]
   try simp only [thenK, scopeK]
   refine hN3 _ ?_
   clear hN3 N3
   refine pwp_then fun N17 hN17 => ?_
   refine pwp_reg fun R18 hR18 => ?_
   refine pops_mv (.inr rfl) rfl (by simp only [St.eval, constSlot] <;> rfl) ?_
   refine pops_done (hR18 _ ?_)
   clear hR18 R18
   try simp only [thenK, scopeK]
   refine hN17 _ ?_
   clear hN17 N17
   refine pwp_ret ?_
   simp only [thenK, blockK, scopeK, bodyK]
   refine ⟨_, rfl, ?_⟩
   try simp only [upd_at, Nat.reduceEqDiff, if_true, if_false, e0_0, e0_1, e0_6, e0_7, e0_8]
   exact ⟨_, _, .refl _ _ _, _, rfl, ⟨fun x => by omega, fun ⟨x, h1, h2⟩ => by
     rw [List.take_of_length_le (by omega)] at hx0_1
     rw [hx0_1 x h1] at h2
     cases h2⟩, sl0⟩

theorem nm54 : (Tryd.f54.name == "runtime.NumGoroutine") = false := by kernel_rfl
theorem containsFuncB_fun (W0 : World) (f : FuncId) (caps : List PV) (p : UInt8 → Bool) (full : Bool) (l : List UInt8) (hp : ∀ c ∈ l, PFun Tryd.prog W0 f (.one (.val (.int .u8 c.toNat)) :: caps.map .one) (.sv (.one (pbool (p c))))) (hn : l.length ≤ 9223372036854775807) :
  PFun Tryd.prog W0 54 [.one (.ro full 1 (l.map byteCell)), .one (.clo (.func f) caps)] (.sv (.one (pbool (l.any p)))) := by
 intro h
 refine pcalls2 (n := 9) Tryd.func54 rfl nm54 rfl fun hb => ?_
 refine pwp_then fun N1 hN1 => ?_
 refine pwp_reg fun R2 hR2 => ?_
 refine pops_to rfl fun M hM => ?_
 simp only [pop, St.eval, constSlot, upd_at, Nat.reduceEqDiff, if_true, if_false, eq_self, true_and, and_true, str_list, str_size, str_app, str_cut, str_get]
 refine hM _ _ ?_
 clear hM M
 refine pops_done (hR2 _ ?_)
 clear hR2 R2
 try simp only [thenK, scopeK]
 refine hN1 _ ?_
 clear hN1 N1
 refine pwp_then fun N3 hN3 => ?_
 refine pwp_reg fun R4 hR4 => ?_
 refine pops_to rfl fun M hM => ?_
 simp only [pop, St.eval, constSlot, upd_at, Nat.reduceEqDiff, if_true, if_false, eq_self, true_and, and_true, str_list, str_size, str_app, str_cut, str_get]
 refine hM _ _ ?_
 clear hM M
 refine pops_to rfl fun M hM => ?_
 simp only [pop, St.eval, constSlot, upd_at, Nat.reduceEqDiff, if_true, if_false, eq_self, true_and, and_true, str_list, str_size, str_app, str_cut, str_get]
 refine hM _ _ ?_
 clear hM M
 refine pops_to rfl fun M hM => ?_
 simp only [pop, St.eval, constSlot, upd_at, Nat.reduceEqDiff, if_true, if_false, popCall, List.toList_toArray, List.map_cons, List.map_nil, svs, List.mapM_cons, List.mapM_nil, Option.bind_eq_bind, Option.bind_some, Option.pure_def, List.append_nil, List.cons_append, List.nil_append, eq_self, true_and, and_true, str_list, str_size, str_app, str_cut, str_get]
 refine (indexFuncB_rel W0 f caps p full l hp hn _).mono ?_
 rintro _ h1 ⟨z, rfl, hz, s1⟩
 refine hM _ _ ?_
 clear hM M
 refine pops_to rfl fun M hM => ?_
 simp only [pop, St.eval, constSlot, upd_at, Nat.reduceEqDiff, if_true, if_false, popBin, binK, intK, strK, eqK, eq_self, true_and, and_true, str_list, str_size, str_app, str_cut, str_get]
 refine hM _ _ ?_
 clear hM M
 refine pops_to rfl fun M hM => ?_
 simp only [pop, St.eval, constSlot, upd_at, Nat.reduceEqDiff, if_true, if_false, eq_self, true_and, and_true, str_list, str_size, str_app, str_cut, str_get]
 refine hM _ _ ?_
 clear hM M
 refine pops_done (hR4 _ ?_)
 clear hR4 R4
 try simp only [thenK, scopeK]
 refine hN3 _ ?_
 clear hN3 N3
 refine pwp_ret ?_
 simp only [thenK, blockK, scopeK, bodyK]
 refine ⟨_, rfl, endFun s1 ?_⟩
 try simp only [upd_at, Nat.reduceEqDiff, if_true, if_false]
 all_goals
  have e : decide (z ≥ 0) = l.any p := by
    rw [Bool.eq_iff_iff]
    simp only [decide_eq_true_eq, ge_iff_le, List.any_eq_true]
    exact hz
  rw [e]

theorem nm14 : (Tryd.f14.name == "runtime.NumGoroutine") = false := by kernel_rfl
set_option maxHeartbeats 2000000 in
theorem encMatches_law (W0 : World) (hm : HasMax W0) (x : Enc) (s : List UInt8) (hnl : x.names.length ≤ 9223372036854775807) (hf : ∀ y ∈ [x.forbid, x.head, x.tail], y.length ≤ 9223372036854775807) :
  PFun Tryd.prog W0 14 [.agg (encPV x), .one (pstr s)] (.sv (.one (pbool true))) := by
 intro h
 refine pcalls2 (n := 101) Tryd.func14 rfl nm14 rfl fun hb => ?_
 refine pwp_then fun N1 hN1 => ?_
 refine pwp_reg fun R2 hR2 => ?_
 refine pops_to rfl fun M hM => ?_
 simp only [pop, St.eval, constSlot, upd_at, Nat.reduceEqDiff, if_true, if_false, popBox, popBoxRo, slotCells, encPV]
 refine .inr ⟨Nat.succ_pos _, hM _ _ ?_⟩
 clear hM M
 refine pops_mv (.inr rfl) rfl (by simp only [St.eval, constSlot] <;> rfl) ?_
 refine pops_done (hR2 _ ?_)
 clear hR2 R2
 try simp only [thenK, scopeK]
 refine hN1 _ ?_
 clear hN1 N1
 refine pwp_then fun N3 hN3 => ?_
 refine pwp_then fun N4 hN4 => ?_
 refine pwp_reg fun R5 hR5 => ?_
 refine pops_to rfl fun M hM => ?_
 simp only [pop, St.eval, constSlot, upd_at, Nat.reduceEqDiff, if_true, if_false, popCall, List.toList_toArray, List.map_cons, List.map_nil, svs, List.mapM_cons, List.mapM_nil, Option.bind_eq_bind, Option.bind_some, Option.pure_def, List.append_nil, List.cons_append, List.nil_append, str_size, encPV]
 refine PFun.use (landed_fun W0 hm) fun h1 s1 => hM _ _ ?_
 replace s1 := Same.trans (Same.refl _) s1
 clear hM M
 refine pops_to rfl fun M hM => ?_
 simp only [pop, St.eval, constSlot, upd_at, Nat.reduceEqDiff, if_true, if_false, unK, encPV]
 refine hM _ _ ?_
 clear hM M
 refine pops_done (hR5 _ ?_)
 clear hR5 R5
 try simp only [thenK, scopeK]
 refine hN4 _ ?_
 clear hN4 N4
 refine pwp_cond (by simp only [St.eval, upd_at, Nat.reduceEqDiff, if_true, if_false, encPV] <;> rfl) (fun c15 => ?_) (fun c15 => ?_)
 ·skip
  simp at c15
 ·skip
  refine pwp_skip ?_
  try simp only [thenK, scopeK]
  refine hN3 _ ?_
  clear hN3 N3
  refine pwp_then fun N6 hN6 => ?_
  refine pwp_then fun N7 hN7 => ?_
  refine pwp_reg fun R8 hR8 => ?_
  refine pops_to rfl fun M hM => ?_
  simp only [pop, St.eval, constSlot, upd_at, Nat.reduceEqDiff, if_true, if_false, List.length_cons, List.length_nil, Nat.zero_add, Nat.reduceAdd, Nat.reduceLeDiff, List.take_zero, List.take_succ_cons, List.take_nil, List.drop_succ_cons, List.drop_zero, List.drop_nil, List.nil_append, List.cons_append, List.append_nil, and_self, List.getElem?_cons_zero, List.getElem?_cons_succ, List.set_cons_zero, List.set_cons_succ, Option.some.injEq, popLoad, loadK, isAggD, List.drop_zero, List.getElem?_toArray, List.getElem?_cons_zero, List.getElem?_cons_succ, Bool.false_eq_true, Tryd.underlying64, sz64, eq_self, true_and, and_true, encPV]
  refine hM _ _ ?_
  clear hM M
  refine pops_to rfl fun M hM => ?_
  simp only [pop, St.eval, constSlot, upd_at, Nat.reduceEqDiff, if_true, if_false, popCall, List.toList_toArray, List.map_cons, List.map_nil, svs, List.mapM_cons, List.mapM_nil, Option.bind_eq_bind, Option.bind_some, Option.pure_def, List.append_nil, List.cons_append, List.nil_append, str_size, encPV]
  refine PFun.use (checkEncRef_fun W0 x hf hnl) fun h2 s2 => hM _ _ ?_
  replace s2 := Same.trans s1 s2
  clear hM M
  refine pops_to rfl fun M hM => ?_
  simp only [pop, St.eval, constSlot, upd_at, Nat.reduceEqDiff, if_true, if_false, popBin, binK, intK, strK, eqK, Tryd.underlying31, isPtr, eq_self, true_and, and_true, encPV]
  refine hM _ _ ?_
  clear hM M
  refine pops_done (hR8 _ ?_)
  clear hR8 R8
  try simp only [thenK, scopeK]
  refine hN7 _ ?_
  clear hN7 N7
  refine pwp_cond (by simp only [St.eval, upd_at, Nat.reduceEqDiff, if_true, if_false, encPV] <;> rfl) (fun c18 => ?_) (fun c18 => ?_)
  ·skip
   refine pwp_then fun N9 hN9 => ?_
   refine pwp_reg fun R10 hR10 => ?_
   refine pops_mv (.inr rfl) rfl (by simp only [St.eval, constSlot] <;> rfl) ?_
   refine pops_done (hR10 _ ?_)
   clear hR10 R10
   try simp only [thenK, scopeK]
   refine hN9 _ ?_
   clear hN9 N9
   refine pwp_ret ?_
   simp only [thenK, blockK, scopeK, bodyK]
   clear hN6 N6
   refine ⟨_, rfl, endFun s2 ?_⟩
   try simp only [upd_at, Nat.reduceEqDiff, if_true, if_false, encPV]
   all_goals
    first
      | rfl
      | (rw [e1, hpt])
  ·skip
   have hec : encCheckR x = 0 := by simpa using c18
   have e1 : encodeR x s = encR x s := by rw [encodeR, if_pos hec]
   have hlr := encR_len x s
   have hle := encodeR_len x s
   have hmax := (encCheck_parts hec).2.2.2
   have hsl : (spl 47 (encodeR x s).1).length ≤ 1025 := by rw [spl_length]; have := List.count_le_length (a := (47 : UInt8)) (l := (encodeR x s).1); omega
   refine pwp_skip ?_
   try simp only [thenK, scopeK]
   refine hN6 _ ?_
   clear hN6 N6
   refine pwp_then fun N11 hN11 => ?_
   refine pwp_reg fun R12 hR12 => ?_
   refine pops_to rfl fun M hM => ?_
   simp only [pop, St.eval, constSlot, upd_at, Nat.reduceEqDiff, if_true, if_false, List.length_cons, List.length_nil, Nat.zero_add, Nat.reduceAdd, Nat.reduceLeDiff, List.take_zero, List.take_succ_cons, List.take_nil, List.drop_succ_cons, List.drop_zero, List.drop_nil, List.nil_append, List.cons_append, List.append_nil, and_self, List.getElem?_cons_zero, List.getElem?_cons_succ, List.set_cons_zero, List.set_cons_succ, Option.some.injEq, popLoad, loadK, isAggD, List.drop_zero, List.getElem?_toArray, List.getElem?_cons_zero, List.getElem?_cons_succ, Bool.false_eq_true, Tryd.underlying64, sz64, eq_self, true_and, and_true, encPV]
   refine hM _ _ ?_
   clear hM M
   refine pops_mv (.inl rfl) rfl (by simp only [St.eval, upd_at, Nat.reduceEqDiff, if_true, if_false, encPV] <;> rfl) ?_
   refine pops_to rfl fun M hM => ?_
   simp only [pop, St.eval, constSlot, upd_at, Nat.reduceEqDiff, if_true, if_false, popCall, List.toList_toArray, List.map_cons, List.map_nil, svs, List.mapM_cons, List.mapM_nil, Option.bind_eq_bind, Option.bind_some, Option.pure_def, List.append_nil, List.cons_append, List.nil_append, str_size, encPV]
   refine PFun.use (encode_fun W0 hm x _ hnl hf) fun h3 s3 => hM _ _ ?_
   replace s3 := Same.trans s2 s3
   clear hM M
   refine pops_mv (.inl rfl) rfl (by simp only [St.eval, upd_at, Nat.reduceEqDiff, if_true, if_false, encPV] <;> rfl) ?_
   refine pops_to rfl fun M hM => ?_
   simp only [pop, St.eval, constSlot, upd_at, Nat.reduceEqDiff, if_true, if_false, List.getElem?_toArray, List.getElem?_cons_zero, List.getElem?_cons_succ, encPV]
   refine hM _ _ ?_
   clear hM M
   refine pops_to rfl fun M hM => ?_
   simp only [pop, St.eval, constSlot, upd_at, Nat.reduceEqDiff, if_true, if_false, List.getElem?_toArray, List.getElem?_cons_zero, List.getElem?_cons_succ, encPV]
   refine hM _ _ ?_
   clear hM M
   refine pops_mv (.inr rfl) rfl (by simp only [St.eval, upd_at, Nat.reduceEqDiff, if_true, if_false, encPV] <;> rfl) ?_
   refine pops_mv (.inr rfl) rfl (by simp only [St.eval, upd_at, Nat.reduceEqDiff, if_true, if_false, encPV] <;> rfl) ?_
   refine pops_done (hR12 _ ?_)
   clear hR12 R12
   try simp only [thenK, scopeK]
   refine hN11 _ ?_
   clear hN11 N11
   refine pwp_then fun N13 hN13 => ?_
   refine pwp_reg fun R14 hR14 => ?_
   refine pops_to rfl fun M hM => ?_
   simp only [pop, St.eval, constSlot, upd_at, Nat.reduceEqDiff, if_true, if_false, List.length_cons, List.length_nil, Nat.zero_add, Nat.reduceAdd, Nat.reduceLeDiff, List.take_zero, List.take_succ_cons, List.take_nil, List.drop_succ_cons, List.drop_zero, List.drop_nil, List.nil_append, List.cons_append, List.append_nil, and_self, List.getElem?_cons_zero, List.getElem?_cons_succ, List.set_cons_zero, List.set_cons_succ, Option.some.injEq, popLoad, loadK, isAggD, List.drop_zero, List.getElem?_toArray, List.getElem?_cons_zero, List.getElem?_cons_succ, Bool.false_eq_true, Tryd.underlying64, sz64, eq_self, true_and, and_true, encPV]
   refine hM _ _ ?_
   clear hM M
   refine pops_mv (.inl rfl) rfl (by simp only [St.eval, upd_at, Nat.reduceEqDiff, if_true, if_false, encPV] <;> rfl) ?_
   refine pops_to rfl fun M hM => ?_
   simp only [pop, St.eval, constSlot, upd_at, Nat.reduceEqDiff, if_true, if_false, popCall, List.toList_toArray, List.map_cons, List.map_nil, svs, List.mapM_cons, List.mapM_nil, Option.bind_eq_bind, Option.bind_some, Option.pure_def, List.append_nil, List.cons_append, List.nil_append, str_size, encPV]
   refine PFun.use (encRefPath_fun W0 hm x _ hnl) fun h4 s4 => hM _ _ ?_
   replace s4 := Same.trans s3 s4
   clear hM M
   refine pops_mv (.inl rfl) rfl (by simp only [St.eval, upd_at, Nat.reduceEqDiff, if_true, if_false, encPV] <;> rfl) ?_
   refine pops_to rfl fun M hM => ?_
   simp only [pop, St.eval, constSlot, upd_at, Nat.reduceEqDiff, if_true, if_false, List.getElem?_toArray, List.getElem?_cons_zero, List.getElem?_cons_succ, encPV]
   refine hM _ _ ?_
   clear hM M
   refine pops_to rfl fun M hM => ?_
   simp only [pop, St.eval, constSlot, upd_at, Nat.reduceEqDiff, if_true, if_false, List.getElem?_toArray, List.getElem?_cons_zero, List.getElem?_cons_succ, encPV]
   refine hM _ _ ?_
   clear hM M
   refine pops_mv (.inr rfl) rfl (by simp only [St.eval, upd_at, Nat.reduceEqDiff, if_true, if_false, encPV] <;> rfl) ?_
   refine pops_mv (.inr rfl) rfl (by simp only [St.eval, upd_at, Nat.reduceEqDiff, if_true, if_false, encPV] <;> rfl) ?_
   refine pops_done (hR14 _ ?_)
   clear hR14 R14
   try simp only [thenK, scopeK]
   refine hN13 _ ?_
   clear hN13 N13
   refine pwp_then fun N15 hN15 => ?_
   refine pwp_then fun N16 hN16 => ?_
   refine pwp_reg fun R17 hR17 => ?_
   refine pops_mv (.inl rfl) rfl (by simp only [St.eval, upd_at, Nat.reduceEqDiff, if_true, if_false, encPV] <;> rfl) ?_
   refine pops_mv (.inl rfl) rfl (by simp only [St.eval, upd_at, Nat.reduceEqDiff, if_true, if_false, encPV] <;> rfl) ?_
   refine pops_to rfl fun M hM => ?_
   simp only [pop, St.eval, constSlot, upd_at, Nat.reduceEqDiff, if_true, if_false, popBin, binK, intK, strK, eqK, Tryd.underlying9, isPtr, eq_self, true_and, and_true, str_list, str_size, str_app, str_cut, str_get, encPV]
   refine hM _ _ ?_
   clear hM M
   refine pops_mv (.inl rfl) rfl (by simp only [St.eval, upd_at, Nat.reduceEqDiff, if_true, if_false, encPV] <;> rfl) ?_
   apply pops_or0 4 34 38 [35, 36, 37] (by simp only [upd_at, Nat.reduceEqDiff, if_true, if_false, encPV] <;> rfl)
   ·skip
    intro g34_0 J18 hJ18
    simp only [List.take_succ_cons, List.take_zero]
    simp only [anyAt_cons, anyAt_nil] at hJ18
    refine pops_mvg (.inl rfl) rfl rfl (by simp only [upd_at, Nat.reduceEqDiff, if_true, if_false, encPV, g34_0]) (by simp only [St.eval, upd_at, Nat.reduceEqDiff, if_true, if_false, encPV, g34_0] <;> rfl) ?_
    refine pops_mvg (.inl rfl) rfl rfl (by simp only [upd_at, Nat.reduceEqDiff, if_true, if_false, encPV, g34_0]) (by simp only [St.eval, upd_at, Nat.reduceEqDiff, if_true, if_false, encPV, g34_0] <;> rfl) ?_
    refine pops_do rfl rfl (by simp only [upd_at, Nat.reduceEqDiff, if_true, if_false, encPV, g34_0]) fun M hM => ?_
    simp only [pop, St.eval, constSlot, upd_at, Nat.reduceEqDiff, if_true, if_false, popBin, binK, intK, strK, eqK, Tryd.underlying31, isPtr, eq_self, true_and, and_true, encPV, g34_0]
    refine hM _ _ ?_
    clear hM M
    refine pops_to rfl fun M hM => ?_
    simp only [pop, St.eval, constSlot, upd_at, Nat.reduceEqDiff, if_true, if_false, popIf, true_implies, false_implies, Bool.true_eq_false, Bool.false_eq_true, reduceCtorEq, true_and, and_true, encPV, g34_0]
    refine hM _ _ ?_
    clear hM M
    exact pops_done (hJ18 _ (wk_same (wk_any ((wk_any ((wk_any (Wk.refl _ _))))))))
   ·skip
    intro g34_0 J18 hJ18
    simp only [List.take_succ_cons, List.take_zero]
    simp only [anyAt_cons, anyAt_nil] at hJ18
    refine pops_off (b := true) rfl rfl (by simp only [upd_at, Nat.reduceEqDiff, if_true, if_false, encPV, g34_0]) (by decide) ?_
    refine pops_off (b := true) rfl rfl (by simp only [upd_at, Nat.reduceEqDiff, if_true, if_false, encPV, g34_0]) (by decide) ?_
    refine pops_off (b := true) rfl rfl (by simp only [upd_at, Nat.reduceEqDiff, if_true, if_false, encPV, g34_0]) (by decide) ?_
    refine pops_to rfl fun M hM => ?_
    simp only [pop, St.eval, constSlot, upd_at, Nat.reduceEqDiff, if_true, if_false, popIf, true_implies, false_implies, Bool.true_eq_false, Bool.false_eq_true, reduceCtorEq, true_and, and_true, encPV, g34_0]
    refine hM _ _ ?_
    clear hM M
    exact pops_done (hJ18 _ (wk_same (wk_any ((wk_any ((wk_any (Wk.refl _ _))))))))
   simp only [List.drop_succ_cons, List.drop_zero, anyAt_cons, anyAt_nil]
   refine pops_done (hR17 _ ?_)
   clear hR17 R17
   try simp only [thenK, scopeK]
   refine hN16 _ ?_
   clear hN16 N16
   refine pwp_cond (by simp only [St.eval, upd_at, Nat.reduceEqDiff, if_true, if_false, encPV] <;> rfl) (fun c38 => ?_) (fun c38 => ?_)
   ·skip
    rw [e1] at c38
    simp at c38
   ·skip
    refine pwp_skip ?_
    try simp only [thenK, scopeK]
    refine hN15 _ ?_
    clear hN15 N15
    refine pwp_then fun N19 hN19 => ?_
    refine pwp_then fun N20 hN20 => ?_
    refine pwp_reg fun R21 hR21 => ?_
    refine pops_mv (.inl rfl) rfl (by simp only [St.eval, upd_at, Nat.reduceEqDiff, if_true, if_false, encPV] <;> rfl) ?_
    refine pops_to rfl fun M hM => ?_
    simp only [pop, St.eval, constSlot, upd_at, Nat.reduceEqDiff, if_true, if_false, popBin, binK, intK, strK, eqK, Tryd.underlying31, isPtr, eq_self, true_and, and_true, encPV]
    refine hM _ _ ?_
    clear hM M
    refine pops_done (hR21 _ ?_)
    clear hR21 R21
    try simp only [thenK, scopeK]
    refine hN20 _ ?_
    clear hN20 N20
    refine pwp_cond (by simp only [St.eval, upd_at, Nat.reduceEqDiff, if_true, if_false, encPV] <;> rfl) (fun c40 => ?_) (fun c40 => ?_)
    ·skip
     refine pwp_then fun N22 hN22 => ?_
     refine pwp_reg fun R23 hR23 => ?_
     refine pops_mv (.inr rfl) rfl (by simp only [St.eval, constSlot] <;> rfl) ?_
     refine pops_done (hR23 _ ?_)
     clear hR23 R23
     try simp only [thenK, scopeK]
     refine hN22 _ ?_
     clear hN22 N22
     refine pwp_ret ?_
     simp only [thenK, blockK, scopeK, bodyK]
     clear hN19 N19
     refine ⟨_, rfl, endFun s4 ?_⟩
     try simp only [upd_at, Nat.reduceEqDiff, if_true, if_false, encPV]
     all_goals
      first
        | rfl
        | (rw [e1, hpt])
    ·skip
     have he0 : (encR x s).2 = 0 := by rw [e1] at c40; simpa using c40
     obtain ⟨hsp, hsr, _⟩ : isPathB s = true ∧ encPath x s = ((encR x s).1, 0) ∧ (encR x s).1.length ≤ 1024 := by
       rcases encR_cases x s with h | h
       · exact absurd he0 h
       · exact h
     obtain ⟨hpt, hnt⟩ := encPath_path hmax hsp hsr
     have hdd : decodeR x (encodeR x s).1 = (s, 0) := by rw [decodeR, if_pos hec, decR, e1, if_pos hpt]; exact decPath_enc hmax hsp hsr
     refine pwp_skip ?_
     try simp only [thenK, scopeK]
     refine hN19 _ ?_
     clear hN19 N19
     refine pwp_then fun N24 hN24 => ?_
     refine pwp_then fun N25 hN25 => ?_
     refine pwp_reg fun R26 hR26 => ?_
     refine pops_to rfl fun M hM => ?_
     simp only [pop, St.eval, constSlot, upd_at, Nat.reduceEqDiff, if_true, if_false, List.length_cons, List.length_nil, Nat.zero_add, Nat.reduceAdd, Nat.reduceLeDiff, List.take_zero, List.take_succ_cons, List.take_nil, List.drop_succ_cons, List.drop_zero, List.drop_nil, List.nil_append, List.cons_append, List.append_nil, and_self, List.getElem?_cons_zero, List.getElem?_cons_succ, List.set_cons_zero, List.set_cons_succ, Option.some.injEq, popLoad, loadK, isAggD, List.drop_zero, List.getElem?_toArray, List.getElem?_cons_zero, List.getElem?_cons_succ, Bool.false_eq_true, Tryd.underlying64, sz64, eq_self, true_and, and_true, encPV]
     refine hM _ _ ?_
     clear hM M
     refine pops_mv (.inl rfl) rfl (by simp only [St.eval, upd_at, Nat.reduceEqDiff, if_true, if_false, encPV] <;> rfl) ?_
     refine pops_to rfl fun M hM => ?_
     simp only [pop, St.eval, constSlot, upd_at, Nat.reduceEqDiff, if_true, if_false, popCall, List.toList_toArray, List.map_cons, List.map_nil, svs, List.mapM_cons, List.mapM_nil, Option.bind_eq_bind, Option.bind_some, Option.pure_def, List.append_nil, List.cons_append, List.nil_append, str_size, encPV]
     refine PFun.use (decode_fun W0 hm x _ hnl hf) fun h5 s5 => hM _ _ ?_
     replace s5 := Same.trans s4 s5
     clear hM M
     refine pops_mv (.inl rfl) rfl (by simp only [St.eval, upd_at, Nat.reduceEqDiff, if_true, if_false, encPV] <;> rfl) ?_
     refine pops_to rfl fun M hM => ?_
     simp only [pop, St.eval, constSlot, upd_at, Nat.reduceEqDiff, if_true, if_false, List.getElem?_toArray, List.getElem?_cons_zero, List.getElem?_cons_succ, encPV]
     refine hM _ _ ?_
     clear hM M
     refine pops_to rfl fun M hM => ?_
     simp only [pop, St.eval, constSlot, upd_at, Nat.reduceEqDiff, if_true, if_false, List.getElem?_toArray, List.getElem?_cons_zero, List.getElem?_cons_succ, encPV]
     refine hM _ _ ?_
     clear hM M
     refine pops_mv (.inr rfl) rfl (by simp only [St.eval, upd_at, Nat.reduceEqDiff, if_true, if_false, encPV] <;> rfl) ?_
     refine pops_mv (.inr rfl) rfl (by simp only [St.eval, upd_at, Nat.reduceEqDiff, if_true, if_false, encPV] <;> rfl) ?_
     refine pops_done (hR26 _ ?_)
     clear hR26 R26
     try simp only [thenK, scopeK]
     refine hN25 _ ?_
     clear hN25 N25
     refine pwp_then fun N27 hN27 => ?_
     refine pwp_reg fun R28 hR28 => ?_
     refine pops_mv (.inl rfl) rfl (by simp only [St.eval, upd_at, Nat.reduceEqDiff, if_true, if_false, encPV] <;> rfl) ?_
     refine pops_mv (.inl rfl) rfl (by simp only [St.eval, upd_at, Nat.reduceEqDiff, if_true, if_false, encPV] <;> rfl) ?_
     refine pops_to rfl fun M hM => ?_
     simp only [pop, St.eval, constSlot, upd_at, Nat.reduceEqDiff, if_true, if_false, popBin, binK, intK, strK, eqK, Tryd.underlying9, isPtr, eq_self, true_and, and_true, str_list, str_size, str_app, str_cut, str_get, encPV]
     refine hM _ _ ?_
     clear hM M
     refine pops_mv (.inl rfl) rfl (by simp only [St.eval, upd_at, Nat.reduceEqDiff, if_true, if_false, encPV] <;> rfl) ?_
     apply pops_or0 3 50 53 [51, 52] (by simp only [upd_at, Nat.reduceEqDiff, if_true, if_false, encPV] <;> rfl)
     ·skip
      intro g50_0 J29 hJ29
      simp only [List.take_succ_cons, List.take_zero]
      simp only [anyAt_cons, anyAt_nil] at hJ29
      refine pops_mvg (.inl rfl) rfl rfl (by simp only [upd_at, Nat.reduceEqDiff, if_true, if_false, encPV, g50_0]) (by simp only [St.eval, upd_at, Nat.reduceEqDiff, if_true, if_false, encPV, g50_0] <;> rfl) ?_
      refine pops_do rfl rfl (by simp only [upd_at, Nat.reduceEqDiff, if_true, if_false, encPV, g50_0]) fun M hM => ?_
      simp only [pop, St.eval, constSlot, upd_at, Nat.reduceEqDiff, if_true, if_false, popBin, binK, intK, strK, eqK, Tryd.underlying31, isPtr, eq_self, true_and, and_true, encPV, g50_0]
      refine hM _ _ ?_
      clear hM M
      refine pops_to rfl fun M hM => ?_
      simp only [pop, St.eval, constSlot, upd_at, Nat.reduceEqDiff, if_true, if_false, popIf, true_implies, false_implies, Bool.true_eq_false, Bool.false_eq_true, reduceCtorEq, true_and, and_true, encPV, g50_0]
      refine hM _ _ ?_
      clear hM M
      exact pops_done (hJ29 _ (wk_same (wk_any ((wk_any (Wk.refl _ _))))))
     ·skip
      intro g50_0 J29 hJ29
      simp only [List.take_succ_cons, List.take_zero]
      simp only [anyAt_cons, anyAt_nil] at hJ29
      refine pops_off (b := true) rfl rfl (by simp only [upd_at, Nat.reduceEqDiff, if_true, if_false, encPV, g50_0]) (by decide) ?_
      refine pops_off (b := true) rfl rfl (by simp only [upd_at, Nat.reduceEqDiff, if_true, if_false, encPV, g50_0]) (by decide) ?_
      refine pops_to rfl fun M hM => ?_
      simp only [pop, St.eval, constSlot, upd_at, Nat.reduceEqDiff, if_true, if_false, popIf, true_implies, false_implies, Bool.true_eq_false, Bool.false_eq_true, reduceCtorEq, true_and, and_true, encPV, g50_0]
      refine hM _ _ ?_
      clear hM M
      exact pops_done (hJ29 _ (wk_same (wk_any ((wk_any (Wk.refl _ _))))))
     simp only [List.drop_succ_cons, List.drop_zero, anyAt_cons, anyAt_nil]
     refine pops_done (hR28 _ ?_)
     clear hR28 R28
     try simp only [thenK, scopeK]
     refine hN27 _ ?_
     clear hN27 N27
     refine pwp_cond (by simp only [St.eval, upd_at, Nat.reduceEqDiff, if_true, if_false, encPV] <;> rfl) (fun c53 => ?_) (fun c53 => ?_)
     ·skip
      rw [hdd] at c53
      simp at c53
     ·skip
      refine pwp_skip ?_
      try simp only [thenK, scopeK]
      refine hN24 _ ?_
      clear hN24 N24
      refine pwp_then fun N30 hN30 => ?_
      refine pwp_then fun N31 hN31 => ?_
      refine pwp_reg fun R32 hR32 => ?_
      refine pops_mv (.inl rfl) rfl (by simp only [St.eval, upd_at, Nat.reduceEqDiff, if_true, if_false, encPV] <;> rfl) ?_
      refine pops_to rfl fun M hM => ?_
      simp only [pop, St.eval, constSlot, upd_at, Nat.reduceEqDiff, if_true, if_false, popCall, List.toList_toArray, List.map_cons, List.map_nil, svs, List.mapM_cons, List.mapM_nil, Option.bind_eq_bind, Option.bind_some, Option.pure_def, List.append_nil, List.cons_append, List.nil_append, str_size, encPV]
      refine PFun.use (split_fun W0 hm _ 47 (by omega)) fun h6 s6 => hM _ _ ?_
      replace s6 := Same.trans s5 s6
      clear hM M
      refine pops_to rfl fun M hM => ?_
      simp only [pop, St.eval, constSlot, upd_at, Nat.reduceEqDiff, if_true, if_false, popCall, List.toList_toArray, List.map_cons, List.map_nil, popBuiltin, popLen, lenOfSlot, List.length_map, Tryd.underlying49, eq_self, true_and, and_true, str_list, str_size, str_app, str_cut, str_get, encPV]
      refine hM _ _ ?_
      clear hM M
      refine pops_mv (.inl rfl) rfl (by simp only [St.eval, constSlot] <;> rfl) ?_
      refine pops_done (hR32 _ ?_)
      clear hR32 R32
      try simp only [thenK, scopeK]
      refine hN31 _ ?_
      clear hN31 N31
      refine pwp_block ?_
      refine pwp_loop (fun k σ => ∃ (i : Nat), (k = (spl 47 (encodeR x s).1).length - i) ∧ (i ≤ (spl 47 (encodeR x s).1).length) ∧ (Same h σ.hp) ∧ (σ.env 2 = .sv (.one (.rop (encPV x)))) ∧ (σ.env 5 = .sv (.one (pstr (encodeR x s).1))) ∧ (σ.env 55 = .sv (.one (.ro true 1 (pstrs (spl 47 (encodeR x s).1))))) ∧ (σ.env 56 = .sv (.one (pint ((spl 47 (encodeR x s).1).length : Nat)))) ∧ (σ.env 57 = .sv (.one (pint (i : Nat))))) _ ⟨_, .refl _ _, 0, rfl, ?_⟩ ?_
      · exact ⟨Nat.zero_le _, s6, by simp only [upd_at, Nat.reduceEqDiff, if_true, if_false, encPV], by simp only [upd_at, Nat.reduceEqDiff, if_true, if_false, encPV], by simp only [upd_at, Nat.reduceEqDiff, if_true, if_false, encPV], by simp only [upd_at, Nat.reduceEqDiff, if_true, if_false, encPV], by simp only [upd_at, Nat.reduceEqDiff, if_true, if_false]; rfl⟩
      ·rintro k ⟨e, hp0⟩ ⟨i, hk0, hx0_0, sl0, e0_2, e0_5, e0_55, e0_56, e0_57⟩
       simp only at sl0 e0_2 e0_5 e0_55 e0_56 e0_57
       refine pwp_then fun N33 hN33 => ?_
       refine pwp_reg fun R34 hR34 => ?_
       refine pops_to rfl fun M hM => ?_
       simp only [pop, St.eval, constSlot, upd_at, Nat.reduceEqDiff, if_true, if_false, popBin, binK, intK, strK, eqK, eq_self, true_and, and_true, e0_2, e0_5, e0_55, e0_56, e0_57, encPV]
       refine hM _ _ ?_
       clear hM M
       refine pops_done (hR34 _ ?_)
       clear hR34 R34
       try simp only [thenK, scopeK]
       refine hN33 _ ?_
       clear hN33 N33
       refine pwp_then fun N35 hN35 => ?_
       refine pwp_cond (by simp only [St.eval, upd_at, Nat.reduceEqDiff, if_true, if_false, e0_2, e0_5, e0_55, e0_56, e0_57, encPV] <;> rfl) (fun c58 => ?_) (fun c58 => ?_)
       ·skip
        have hi : i < (spl 47 (encodeR x s).1).length := by have := of_decide_eq_true c58; omega
        obtain ⟨n, hx⟩ : ∃ n, (spl 47 (encodeR x s).1)[i]? = some n := ⟨_, List.getElem?_eq_getElem hi⟩
        have hget : (pstrs (spl 47 (encodeR x s).1))[i]? = some [pstr n] := by simp only [List.getElem?_map, hx, Option.map_some]
        refine pwp_skip ?_
        try simp only [thenK, scopeK]
        refine hN35 _ ?_
        clear hN35 N35
        refine pwp_then fun N36 hN36 => ?_
        refine pwp_block ?_
        refine pwp_then fun N37 hN37 => ?_
        refine pwp_reg fun R38 hR38 => ?_
        refine pops_to rfl fun M hM => ?_
        simp only [pop, St.eval, constSlot, upd_at, Nat.reduceEqDiff, if_true, if_false, popIndexAddr, Tryd.underlying49, sz9, eq_self, true_and, and_true, str_list, str_size, str_app, str_cut, str_get, e0_2, e0_5, e0_55, e0_56, e0_57, encPV, hget, Int.toNat_natCast]
        refine ⟨Int.natCast_nonneg _, hM _ _ ?_⟩
        clear hM M
        refine pops_to rfl fun M hM => ?_
        simp only [pop, St.eval, constSlot, upd_at, Nat.reduceEqDiff, if_true, if_false, popLoad, loadK, isAggD, List.drop_zero, List.getElem?_toArray, List.getElem?_cons_zero, List.getElem?_cons_succ, Bool.false_eq_true, Tryd.underlying9, sz9, eq_self, true_and, and_true, e0_2, e0_5, e0_55, e0_56, e0_57, encPV, hget, Int.toNat_natCast]
        refine hM _ _ ?_
        clear hM M
        refine pops_mv (.inr rfl) rfl (by simp only [St.eval, upd_at, Nat.reduceEqDiff, if_true, if_false, e0_2, e0_5, e0_55, e0_56, e0_57, encPV, hget, Int.toNat_natCast] <;> rfl) ?_
        refine pops_done (hR38 _ ?_)
        clear hR38 R38
        try simp only [thenK, scopeK]
        refine hN37 _ ?_
        clear hN37 N37
        refine pwp_then fun N39 hN39 => ?_
        refine pwp_then fun N40 hN40 => ?_
        refine pwp_reg fun R41 hR41 => ?_
        refine pops_mv (.inl rfl) rfl (by simp only [St.eval, upd_at, Nat.reduceEqDiff, if_true, if_false, e0_2, e0_5, e0_55, e0_56, e0_57, encPV, hget, Int.toNat_natCast] <;> rfl) ?_
        refine pops_to rfl fun M hM => ?_
        simp only [pop, St.eval, constSlot, upd_at, Nat.reduceEqDiff, if_true, if_false, popBin, binK, intK, strK, eqK, Tryd.underlying9, isPtr, eq_self, true_and, and_true, str_list, str_size, str_app, str_cut, str_get, e0_2, e0_5, e0_55, e0_56, e0_57, encPV, hget, Int.toNat_natCast]
        refine hM _ _ ?_
        clear hM M
        refine pops_done (hR41 _ ?_)
        clear hR41 R41
        try simp only [thenK, scopeK]
        refine hN40 _ ?_
        clear hN40 N40
        refine pwp_cond (by simp only [St.eval, upd_at, Nat.reduceEqDiff, if_true, if_false, e0_2, e0_5, e0_55, e0_56, e0_57, encPV, hget, Int.toNat_natCast] <;> rfl) (fun c62 => ?_) (fun c62 => ?_)
        ·skip
         skip
         refine pwp_exit ?_
         try simp only [thenK, blockK, scopeK, if_true, Nat.reduceEqDiff, if_false]
         clear hN39 N39 hN36 N36
         try simp only [blockK, scopeK, if_true, Nat.reduceEqDiff, if_false, thenK]
         try simp only [thenK, scopeK]
         refine hN30 _ ?_
         clear hN30 N30
         refine pwp_then fun N42 hN42 => ?_
         refine pwp_reg fun R43 hR43 => ?_
         refine pops_mv (.inl rfl) rfl (by simp only [St.eval, upd_at, Nat.reduceEqDiff, if_true, if_false, e0_2, e0_5, e0_55, e0_56, e0_57, encPV, hget, Int.toNat_natCast] <;> rfl) ?_
         refine pops_to rfl fun M hM => ?_
         simp only [pop, St.eval, constSlot, upd_at, Nat.reduceEqDiff, if_true, if_false, popCall, List.toList_toArray, List.map_cons, List.map_nil, svs, List.mapM_cons, List.mapM_nil, Option.bind_eq_bind, Option.bind_some, Option.pure_def, List.append_nil, List.cons_append, List.nil_append, str_size, e0_2, e0_5, e0_55, e0_56, e0_57, encPV, hget, Int.toNat_natCast]
         refine PFun.use (isPath_fun W0 hm _) fun h7 s7 => hM _ _ ?_
         replace s7 := Same.trans sl0 s7
         clear hM M
         refine pops_mv (.inr rfl) rfl (by simp only [St.eval, upd_at, Nat.reduceEqDiff, if_true, if_false, e0_2, e0_5, e0_55, e0_56, e0_57, encPV, hget, Int.toNat_natCast] <;> rfl) ?_
         refine pops_done (hR43 _ ?_)
         clear hR43 R43
         try simp only [thenK, scopeK]
         refine hN42 _ ?_
         clear hN42 N42
         refine pwp_ret ?_
         simp only [thenK, blockK, scopeK, bodyK]
         refine ⟨_, rfl, endFun s7 ?_⟩
         try simp only [upd_at, Nat.reduceEqDiff, if_true, if_false, e0_2, e0_5, e0_55, e0_56, e0_57, encPV, hget, Int.toNat_natCast]
         all_goals
          first
            | rfl
            | (rw [e1, hpt])
        ·skip
         have hne : (encR x s).1 ≠ [] := by rw [e1] at c62; simpa using c62
         have hgood := good_path hec hsp hsr hne (by rw [← e1]; exact List.mem_of_getElem? hx)
         have hnlen := hgood.len
         have hnpos := List.length_pos_iff.2 hgood.ne
         have hg1 : decide (((n.length : Nat) : Int) > x.maxName) = false := by rw [decide_eq_false_iff_not]; omega
         obtain ⟨c0, hc0⟩ : ∃ c, n[0]? = some c := ⟨_, List.getElem?_eq_getElem hnpos⟩
         obtain ⟨c1, hc1⟩ : ∃ c, n[n.length - 1]? = some c := ⟨_, List.getElem?_eq_getElem (by omega)⟩
         have hh0 := hgood.first c0 hc0
         have hh1 := hgood.last c1 hc1
         have hgn : x.names.contains (n.map lowC) = false := hgood.name
         have hwp := wrap_pred (n := n.length) (by omega) (by omega)
         refine pwp_skip ?_
         try simp only [thenK, scopeK]
         refine hN39 _ ?_
         clear hN39 N39
         refine pwp_then fun N44 hN44 => ?_
         refine pwp_reg fun R45 hR45 => ?_
         refine pops_var (hpOk.same hb sl0) rfl ze70 rfl (by simp) (by simp only [St.eval, constSlot, slotCells, upd_at, Nat.reduceEqDiff, if_true, if_false, e0_2, e0_5, e0_55, e0_56, e0_57, encPV, hget, Int.toNat_natCast] <;> rfl) (by rfl) (by exact Nat.succ_pos _) (by rw [sz70]; rfl) (fun hv46 sv46 => ?_)
         replace sv46 := Same.trans sl0 sv46
         refine pops_done (hR45 _ ?_)
         clear hR45 R45
         try simp only [thenK, scopeK]
         refine hN44 _ ?_
         clear hN44 N44
         refine pwp_then fun N47 hN47 => ?_
         refine pwp_then fun N48 hN48 => ?_
         refine pwp_dreg 31 mixed (by decide +kernel) fun R49 hR49 => ?_
         simp only [List.take_succ_cons, List.take_zero, List.drop_succ_cons, List.drop_zero]
         apply lex_to
         · rfl
         ·intro h' s' M hM
          simp only [pop, St.eval, constSlot, upd_at, Nat.reduceEqDiff, if_true, if_false, eq_self, true_and, and_true, str_list, str_size, str_app, str_cut, str_get, e0_2, e0_5, e0_55, e0_56, e0_57, encPV, hget, Int.toNat_natCast, s'.1]
          exact hM _ (.refl _)
         apply lex_to
         · rfl
         ·intro h' s' M hM
          simp only [pop, St.eval, constSlot, upd_at, Nat.reduceEqDiff, if_true, if_false, popCall, List.toList_toArray, List.map_cons, List.map_nil, popBuiltin, popLen, lenOfSlot, List.length_map, Tryd.underlying9, eq_self, true_and, and_true, str_list, str_size, str_app, str_cut, str_get, e0_2, e0_5, e0_55, e0_56, e0_57, encPV, hget, Int.toNat_natCast, s'.1]
          exact hM _ (.refl _)
         apply lex_to
         · rfl
         ·intro h' s' M hM
          simp only [pop, St.eval, constSlot, upd_at, Nat.reduceEqDiff, if_true, if_false, popFieldAddr, fieldOf, List.drop_succ_cons, List.drop_zero, List.getElem?_toArray, List.getElem?_cons_zero, List.getElem?_cons_succ, Tryd.underlying64, sz3, e0_2, e0_5, e0_55, e0_56, e0_57, encPV, hget, Int.toNat_natCast, s'.1]
          exact ⟨⟨_, rfl⟩, hM _ (.refl _)⟩
         apply lex_to
         · rfl
         ·intro h' s' M hM
          simp only [pop, St.eval, constSlot, upd_at, Nat.reduceEqDiff, if_true, if_false, popLoad, loadK, isAggD, List.drop_zero, List.getElem?_toArray, List.getElem?_cons_zero, List.getElem?_cons_succ, Bool.false_eq_true, Tryd.underlying3, sz3, eq_self, true_and, and_true, e0_2, e0_5, e0_55, e0_56, e0_57, encPV, hget, Int.toNat_natCast, s'.1]
          exact hM _ (.refl _)
         apply lex_to
         · rfl
         ·intro h' s' M hM
          simp only [pop, St.eval, constSlot, upd_at, Nat.reduceEqDiff, if_true, if_false, popBin, binK, intK, strK, eqK, eq_self, true_and, and_true, e0_2, e0_5, e0_55, e0_56, e0_57, encPV, hget, Int.toNat_natCast, hg1, s'.1]
          exact hM _ (.refl _)
         apply lex_to
         · rfl
         ·intro h' s' M hM
          simp only [pop, St.eval, constSlot, upd_at, Nat.reduceEqDiff, if_true, if_false, eq_self, true_and, and_true, str_list, str_size, str_app, str_cut, str_get, e0_2, e0_5, e0_55, e0_56, e0_57, encPV, hget, Int.toNat_natCast, s'.1]
          exact hM _ (.refl _)
         apply lex_do
         · rfl
         · rfl
         · simp only [upd_at, Nat.reduceEqDiff, if_true, if_false, e0_2, e0_5, e0_55, e0_56, e0_57, encPV, hget, Int.toNat_natCast]
         ·intro h' s' M hM
          simp only [pop, St.eval, constSlot, upd_at, Nat.reduceEqDiff, if_true, if_false, popLoad, loadK, isAggD, List.drop_zero, List.getElem?_toArray, List.getElem?_cons_zero, List.getElem?_cons_succ, Bool.false_eq_true, Tryd.underlying70, sz70, eq_self, true_and, and_true, e0_2, e0_5, e0_55, e0_56, e0_57, encPV, hget, Int.toNat_natCast, s'.1]
          exact hM _ (.refl _)
         apply lex_do
         · rfl
         · rfl
         · simp only [upd_at, Nat.reduceEqDiff, if_true, if_false, e0_2, e0_5, e0_55, e0_56, e0_57, encPV, hget, Int.toNat_natCast]
         ·intro h' s' M hM
          simp only [pop, St.eval, constSlot, upd_at, Nat.reduceEqDiff, if_true, if_false, popFieldAddr, fieldOf, List.drop_succ_cons, List.drop_zero, List.getElem?_toArray, List.getElem?_cons_zero, List.getElem?_cons_succ, Tryd.underlying64, sz9, e0_2, e0_5, e0_55, e0_56, e0_57, encPV, hget, Int.toNat_natCast, s'.1]
          exact ⟨⟨_, rfl⟩, hM _ (.refl _)⟩
         apply lex_do
         · rfl
         · rfl
         · simp only [upd_at, Nat.reduceEqDiff, if_true, if_false, e0_2, e0_5, e0_55, e0_56, e0_57, encPV, hget, Int.toNat_natCast]
         ·intro h' s' M hM
          simp only [pop, St.eval, constSlot, upd_at, Nat.reduceEqDiff, if_true, if_false, popLoad, loadK, isAggD, List.drop_zero, List.getElem?_toArray, List.getElem?_cons_zero, List.getElem?_cons_succ, Bool.false_eq_true, Tryd.underlying9, sz9, eq_self, true_and, and_true, e0_2, e0_5, e0_55, e0_56, e0_57, encPV, hget, Int.toNat_natCast, s'.1]
          exact hM _ (.refl _)
         apply lex_do
         · rfl
         · rfl
         · simp only [upd_at, Nat.reduceEqDiff, if_true, if_false, e0_2, e0_5, e0_55, e0_56, e0_57, encPV, hget, Int.toNat_natCast]
         ·intro h' s' M hM
          simp only [pop, St.eval, constSlot, upd_at, Nat.reduceEqDiff, if_true, if_false, eq_self, true_and, and_true, str_list, str_size, str_app, str_cut, str_get, e0_2, e0_5, e0_55, e0_56, e0_57, encPV, hget, Int.toNat_natCast, s'.1]
          exact hM _ (.refl _)
         apply lex_do
         · rfl
         · rfl
         · simp only [upd_at, Nat.reduceEqDiff, if_true, if_false, e0_2, e0_5, e0_55, e0_56, e0_57, encPV, hget, Int.toNat_natCast]
         ·intro h' s' M hM
          simp only [pop, St.eval, constSlot, upd_at, Nat.reduceEqDiff, if_true, if_false, popIndex, partK, Tryd.underlying9, eq_self, true_and, and_true, str_list, str_size, str_app, str_cut, str_get, e0_2, e0_5, e0_55, e0_56, e0_57, encPV, hget, Int.toNat_natCast, hc0, Int.toNat_zero, s'.1]
          refine ⟨Int.le_refl _, ?_⟩
          exact hM _ (.refl _)
         apply lex_do
         · rfl
         · rfl
         · simp only [upd_at, Nat.reduceEqDiff, if_true, if_false, e0_2, e0_5, e0_55, e0_56, e0_57, encPV, hget, Int.toNat_natCast]
         ·intro h' s' M hM
          simp only [pop, St.eval, constSlot, upd_at, Nat.reduceEqDiff, if_true, if_false, popCall, List.toList_toArray, List.map_cons, List.map_nil, svs, List.mapM_cons, List.mapM_nil, Option.bind_eq_bind, Option.bind_some, Option.pure_def, List.append_nil, List.cons_append, List.nil_append, str_size, e0_2, e0_5, e0_55, e0_56, e0_57, encPV, hget, Int.toNat_natCast, s'.1]
          refine PFun.use (inC_fun W0 x.head c0) fun hp s => ?_
          rw [hh0]
          exact hM _ s
         apply lex_to
         · rfl
         ·intro h' s' M hM
          simp only [pop, St.eval, constSlot, upd_at, Nat.reduceEqDiff, if_true, if_false, popIf, true_implies, false_implies, Bool.true_eq_false, Bool.false_eq_true, reduceCtorEq, true_and, and_true, e0_2, e0_5, e0_55, e0_56, e0_57, encPV, hget, Int.toNat_natCast, hh0, s'.1]
          exact hM _ (.refl _)
         apply lex_to
         · rfl
         ·intro h' s' M hM
          simp only [pop, St.eval, constSlot, upd_at, Nat.reduceEqDiff, if_true, if_false, eq_self, true_and, and_true, str_list, str_size, str_app, str_cut, str_get, e0_2, e0_5, e0_55, e0_56, e0_57, encPV, hget, Int.toNat_natCast, hh0, s'.1]
          exact hM _ (.refl _)
         apply lex_do
         · rfl
         · rfl
         · simp only [upd_at, Nat.reduceEqDiff, if_true, if_false, e0_2, e0_5, e0_55, e0_56, e0_57, encPV, hget, Int.toNat_natCast]
         ·intro h' s' M hM
          simp only [pop, St.eval, constSlot, upd_at, Nat.reduceEqDiff, if_true, if_false, popLoad, loadK, isAggD, List.drop_zero, List.getElem?_toArray, List.getElem?_cons_zero, List.getElem?_cons_succ, Bool.false_eq_true, Tryd.underlying70, sz70, eq_self, true_and, and_true, e0_2, e0_5, e0_55, e0_56, e0_57, encPV, hget, Int.toNat_natCast, s'.1]
          exact hM _ (.refl _)
         apply lex_do
         · rfl
         · rfl
         · simp only [upd_at, Nat.reduceEqDiff, if_true, if_false, e0_2, e0_5, e0_55, e0_56, e0_57, encPV, hget, Int.toNat_natCast]
         ·intro h' s' M hM
          simp only [pop, St.eval, constSlot, upd_at, Nat.reduceEqDiff, if_true, if_false, popFieldAddr, fieldOf, List.drop_succ_cons, List.drop_zero, List.getElem?_toArray, List.getElem?_cons_zero, List.getElem?_cons_succ, Tryd.underlying64, sz9, e0_2, e0_5, e0_55, e0_56, e0_57, encPV, hget, Int.toNat_natCast, s'.1]
          exact ⟨⟨_, rfl⟩, hM _ (.refl _)⟩
         apply lex_do
         · rfl
         · rfl
         · simp only [upd_at, Nat.reduceEqDiff, if_true, if_false, e0_2, e0_5, e0_55, e0_56, e0_57, encPV, hget, Int.toNat_natCast]
         ·intro h' s' M hM
          simp only [pop, St.eval, constSlot, upd_at, Nat.reduceEqDiff, if_true, if_false, popLoad, loadK, isAggD, List.drop_zero, List.getElem?_toArray, List.getElem?_cons_zero, List.getElem?_cons_succ, Bool.false_eq_true, Tryd.underlying9, sz9, eq_self, true_and, and_true, e0_2, e0_5, e0_55, e0_56, e0_57, encPV, hget, Int.toNat_natCast, s'.1]
          exact hM _ (.refl _)
         apply lex_do
         · rfl
         · rfl
         · simp only [upd_at, Nat.reduceEqDiff, if_true, if_false, e0_2, e0_5, e0_55, e0_56, e0_57, encPV, hget, Int.toNat_natCast]
         ·intro h' s' M hM
          simp only [pop, St.eval, constSlot, upd_at, Nat.reduceEqDiff, if_true, if_false, eq_self, true_and, and_true, str_list, str_size, str_app, str_cut, str_get, e0_2, e0_5, e0_55, e0_56, e0_57, encPV, hget, Int.toNat_natCast, s'.1]
          exact hM _ (.refl _)
         apply lex_do
         · rfl
         · rfl
         · simp only [upd_at, Nat.reduceEqDiff, if_true, if_false, e0_2, e0_5, e0_55, e0_56, e0_57, encPV, hget, Int.toNat_natCast]
         ·intro h' s' M hM
          simp only [pop, St.eval, constSlot, upd_at, Nat.reduceEqDiff, if_true, if_false, eq_self, true_and, and_true, str_list, str_size, str_app, str_cut, str_get, e0_2, e0_5, e0_55, e0_56, e0_57, encPV, hget, Int.toNat_natCast, s'.1]
          exact hM _ (.refl _)
         apply lex_do
         · rfl
         · rfl
         · simp only [upd_at, Nat.reduceEqDiff, if_true, if_false, e0_2, e0_5, e0_55, e0_56, e0_57, encPV, hget, Int.toNat_natCast]
         ·intro h' s' M hM
          simp only [pop, St.eval, constSlot, upd_at, Nat.reduceEqDiff, if_true, if_false, popCall, List.toList_toArray, List.map_cons, List.map_nil, popBuiltin, popLen, lenOfSlot, List.length_map, Tryd.underlying9, eq_self, true_and, and_true, str_list, str_size, str_app, str_cut, str_get, e0_2, e0_5, e0_55, e0_56, e0_57, encPV, hget, Int.toNat_natCast, s'.1]
          exact hM _ (.refl _)
         apply lex_do
         · rfl
         · rfl
         · simp only [upd_at, Nat.reduceEqDiff, if_true, if_false, e0_2, e0_5, e0_55, e0_56, e0_57, encPV, hget, Int.toNat_natCast]
         ·intro h' s' M hM
          simp only [pop, St.eval, constSlot, upd_at, Nat.reduceEqDiff, if_true, if_false, popBin, binK, intK, strK, eqK, eq_self, true_and, and_true, e0_2, e0_5, e0_55, e0_56, e0_57, encPV, hget, Int.toNat_natCast, hwp, s'.1]
          exact hM _ (.refl _)
         apply lex_do
         · rfl
         · rfl
         · simp only [upd_at, Nat.reduceEqDiff, if_true, if_false, e0_2, e0_5, e0_55, e0_56, e0_57, encPV, hget, Int.toNat_natCast]
         ·intro h' s' M hM
          simp only [pop, St.eval, constSlot, upd_at, Nat.reduceEqDiff, if_true, if_false, popIndex, partK, Tryd.underlying9, eq_self, true_and, and_true, str_list, str_size, str_app, str_cut, str_get, e0_2, e0_5, e0_55, e0_56, e0_57, encPV, hget, Int.toNat_natCast, hc1, Int.toNat_natCast, s'.1]
          refine ⟨Int.natCast_nonneg _, ?_⟩
          exact hM _ (.refl _)
         apply lex_do
         · rfl
         · rfl
         · simp only [upd_at, Nat.reduceEqDiff, if_true, if_false, e0_2, e0_5, e0_55, e0_56, e0_57, encPV, hget, Int.toNat_natCast]
         ·intro h' s' M hM
          simp only [pop, St.eval, constSlot, upd_at, Nat.reduceEqDiff, if_true, if_false, popCall, List.toList_toArray, List.map_cons, List.map_nil, svs, List.mapM_cons, List.mapM_nil, Option.bind_eq_bind, Option.bind_some, Option.pure_def, List.append_nil, List.cons_append, List.nil_append, str_size, e0_2, e0_5, e0_55, e0_56, e0_57, encPV, hget, Int.toNat_natCast, s'.1]
          refine PFun.use (inC_fun W0 x.tail c1) fun hp s => ?_
          rw [hh1]
          exact hM _ s
         apply lex_to
         · rfl
         ·intro h' s' M hM
          simp only [pop, St.eval, constSlot, upd_at, Nat.reduceEqDiff, if_true, if_false, popIf, true_implies, false_implies, Bool.true_eq_false, Bool.false_eq_true, reduceCtorEq, true_and, and_true, e0_2, e0_5, e0_55, e0_56, e0_57, encPV, hget, Int.toNat_natCast, hh1, s'.1]
          exact hM _ (.refl _)
         apply lex_to
         · rfl
         ·intro h' s' M hM
          simp only [pop, St.eval, constSlot, upd_at, Nat.reduceEqDiff, if_true, if_false, eq_self, true_and, and_true, str_list, str_size, str_app, str_cut, str_get, e0_2, e0_5, e0_55, e0_56, e0_57, encPV, hget, Int.toNat_natCast, hh1, s'.1]
          exact hM _ (.refl _)
         apply lex_do
         · rfl
         · rfl
         · simp only [upd_at, Nat.reduceEqDiff, if_true, if_false, e0_2, e0_5, e0_55, e0_56, e0_57, encPV, hget, Int.toNat_natCast]
         ·intro h' s' M hM
          simp only [pop, St.eval, constSlot, upd_at, Nat.reduceEqDiff, if_true, if_false, popFieldAddr, fieldOf, List.drop_succ_cons, List.drop_zero, List.getElem?_toArray, List.getElem?_cons_zero, List.getElem?_cons_succ, Tryd.underlying64, sz49, e0_2, e0_5, e0_55, e0_56, e0_57, encPV, hget, Int.toNat_natCast, s'.1]
          exact ⟨⟨_, rfl⟩, hM _ (.refl _)⟩
         apply lex_do
         · rfl
         · rfl
         · simp only [upd_at, Nat.reduceEqDiff, if_true, if_false, e0_2, e0_5, e0_55, e0_56, e0_57, encPV, hget, Int.toNat_natCast]
         ·intro h' s' M hM
          simp only [pop, St.eval, constSlot, upd_at, Nat.reduceEqDiff, if_true, if_false, popLoad, loadK, isAggD, List.drop_zero, List.getElem?_toArray, List.getElem?_cons_zero, List.getElem?_cons_succ, Bool.false_eq_true, Tryd.underlying49, sz49, eq_self, true_and, and_true, e0_2, e0_5, e0_55, e0_56, e0_57, encPV, hget, Int.toNat_natCast, s'.1]
          exact hM _ (.refl _)
         apply lex_do
         · rfl
         · rfl
         · simp only [upd_at, Nat.reduceEqDiff, if_true, if_false, e0_2, e0_5, e0_55, e0_56, e0_57, encPV, hget, Int.toNat_natCast]
         ·intro h' s' M hM
          simp only [pop, St.eval, constSlot, upd_at, Nat.reduceEqDiff, if_true, if_false, eq_self, true_and, and_true, str_list, str_size, str_app, str_cut, str_get, e0_2, e0_5, e0_55, e0_56, e0_57, encPV, hget, Int.toNat_natCast, s'.1]
          exact hM _ (.refl _)
         apply lex_do
         · rfl
         · rfl
         · simp only [upd_at, Nat.reduceEqDiff, if_true, if_false, e0_2, e0_5, e0_55, e0_56, e0_57, encPV, hget, Int.toNat_natCast]
         ·intro h' s' M hM
          simp only [pop, St.eval, constSlot, upd_at, Nat.reduceEqDiff, if_true, if_false, popCall, List.toList_toArray, List.map_cons, List.map_nil, svs, List.mapM_cons, List.mapM_nil, Option.bind_eq_bind, Option.bind_some, Option.pure_def, List.append_nil, List.cons_append, List.nil_append, str_size, e0_2, e0_5, e0_55, e0_56, e0_57, encPV, hget, Int.toNat_natCast, s'.1]
          refine PFun.use (lower_fun W0 n (by omega)) fun hp s => hM _ s
         apply lex_do
         · rfl
         · rfl
         · simp only [upd_at, Nat.reduceEqDiff, if_true, if_false, e0_2, e0_5, e0_55, e0_56, e0_57, encPV, hget, Int.toNat_natCast]
         ·intro h' s' M hM
          simp only [pop, St.eval, constSlot, upd_at, Nat.reduceEqDiff, if_true, if_false, popCall, List.toList_toArray, List.map_cons, List.map_nil, svs, List.mapM_cons, List.mapM_nil, Option.bind_eq_bind, Option.bind_some, Option.pure_def, List.append_nil, List.cons_append, List.nil_append, str_size, e0_2, e0_5, e0_55, e0_56, e0_57, encPV, hget, Int.toNat_natCast, s'.1]
          refine PFun.use (containsS_fun W0 false x.names (n.map lowC) hnl) fun hp s => ?_
          rw [hgn]
          exact hM _ s
         apply lex_to
         · rfl
         ·intro h' s' M hM
          simp only [pop, St.eval, constSlot, upd_at, Nat.reduceEqDiff, if_true, if_false, popIf, true_implies, false_implies, Bool.true_eq_false, Bool.false_eq_true, reduceCtorEq, true_and, and_true, e0_2, e0_5, e0_55, e0_56, e0_57, encPV, hget, Int.toNat_natCast, hgn, s'.1]
          exact hM _ (.refl _)
         refine lex_done fun hq sq => ?_
         replace sq := Same.trans sv46 sq
         refine pops_done (hR49 _ ?_)
         clear hR49 R49
         try simp only [thenK, scopeK]
         refine hN48 _ ?_
         clear hN48 N48
         refine pwp_cond_false (by simp only [St.eval, upd_at, Nat.reduceEqDiff, if_true, if_false, e0_2, e0_5, e0_55, e0_56, e0_57, encPV, hget, Int.toNat_natCast] <;> rfl) ?_
         refine pwp_skip ?_
         try simp only [thenK, scopeK]
         refine hN47 _ ?_
         clear hN47 N47
         refine pwp_then fun N50 hN50 => ?_
         refine pwp_reg fun R51 hR51 => ?_
         refine pops_mv (.inl rfl) rfl (by simp only [St.eval, upd_at, Nat.reduceEqDiff, if_true, if_false, e0_2, e0_5, e0_55, e0_56, e0_57, encPV, hget, Int.toNat_natCast] <;> rfl) ?_
         refine pops_toBytes (hpOk.same hb sq) rfl Tryd.underlying9 Tryd.underlying73 Tryd.underlying5 (by simp only [St.eval, upd_at, Nat.reduceEqDiff, if_true, if_false, e0_2, e0_5, e0_55, e0_56, e0_57, encPV, hget, Int.toNat_natCast] <;> rfl) (by omega) (fun hv52 sv52 => ?_)
         replace sv52 := Same.trans sq sv52
         refine pops_to rfl fun M hM => ?_
         simp only [pop, St.eval, constSlot, upd_at, Nat.reduceEqDiff, if_true, if_false, onesOf, List.toList_toArray, List.map_cons, List.map_nil, List.mapM_cons, List.mapM_nil, Option.bind_eq_bind, Option.bind_some, Option.pure_def, eq_self, true_and, e0_2, e0_5, e0_55, e0_56, e0_57, encPV, hget, Int.toNat_natCast]
         refine hM _ _ ?_
         clear hM M
         refine pops_to rfl fun M hM => ?_
         simp only [pop, St.eval, constSlot, upd_at, Nat.reduceEqDiff, if_true, if_false, popCall, List.toList_toArray, List.map_cons, List.map_nil, svs, List.mapM_cons, List.mapM_nil, Option.bind_eq_bind, Option.bind_some, Option.pure_def, List.append_nil, List.cons_append, List.nil_append, str_size, e0_2, e0_5, e0_55, e0_56, e0_57, encPV, hget, Int.toNat_natCast]
         refine PFun.use (containsFuncB_fun W0 55 [.rop [.clo (.func 51) []], .rop (encPV x)] (fun c => x.forbid.contains c) false n (fun c _ => forbidC_fun W0 x c) (by omega)) fun h8 s8 => hM _ _ ?_
         replace s8 := Same.trans sv52 s8
         clear hM M
         refine pops_done (hR51 _ ?_)
         clear hR51 R51
         try simp only [thenK, scopeK]
         refine hN50 _ ?_
         clear hN50 N50
         refine pwp_cond (by simp only [St.eval, upd_at, Nat.reduceEqDiff, if_true, if_false, e0_2, e0_5, e0_55, e0_56, e0_57, encPV, hget, Int.toNat_natCast] <;> rfl) (fun c97 => ?_) (fun c97 => ?_)
         ·skip
          rw [List.any_eq_true] at c97
          obtain ⟨c, h1, h2⟩ := c97
          rw [hgood.forbid c h1] at h2
          cases h2
         ·skip
          refine pwp_skip ?_
          try simp only [blockK, thenK, scopeK]
          try simp only [thenK, scopeK]
          refine hN36 _ ?_
          clear hN36 N36
          refine pwp_reg fun R53 hR53 => ?_
          refine pops_to rfl fun M hM => ?_
          simp only [pop, St.eval, constSlot, upd_at, Nat.reduceEqDiff, if_true, if_false, popBin, binK, intK, strK, eqK, eq_self, true_and, and_true, e0_2, e0_5, e0_55, e0_56, e0_57, encPV, hget, Int.toNat_natCast]
          refine hM _ _ ?_
          clear hM M
          refine pops_mv (.inl rfl) rfl (by simp only [St.eval, upd_at, Nat.reduceEqDiff, if_true, if_false, e0_2, e0_5, e0_55, e0_56, e0_57, encPV, hget, Int.toNat_natCast] <;> rfl) ?_
          refine pops_done (hR53 _ ?_)
          clear hR53 R53
          try simp only [thenK, scopeK]
          exact ⟨_, by omega, _, .refl _ _, i + 1, rfl, by omega, s8, by simp only [upd_at, Nat.reduceEqDiff, if_true, if_false, e0_2, e0_5, e0_55, e0_56, e0_57, encPV, hget, Int.toNat_natCast], by simp only [upd_at, Nat.reduceEqDiff, if_true, if_false, e0_2, e0_5, e0_55, e0_56, e0_57, encPV, hget, Int.toNat_natCast], by simp only [upd_at, Nat.reduceEqDiff, if_true, if_false, e0_2, e0_5, e0_55, e0_56, e0_57, encPV, hget, Int.toNat_natCast], by simp only [upd_at, Nat.reduceEqDiff, if_true, if_false, e0_2, e0_5, e0_55, e0_56, e0_57, encPV, hget, Int.toNat_natCast], by simp only [upd_at, Nat.reduceEqDiff, if_true, if_false, e0_57]; rw [wrap_succ (by omega)]⟩
       ·skip
        skip
        refine pwp_exit ?_
        try simp only [thenK, blockK, scopeK, if_true, Nat.reduceEqDiff, if_false]
        clear hN35 N35
        try simp only [blockK, scopeK, if_true, Nat.reduceEqDiff, if_false, thenK]
        try simp only [thenK, scopeK]
        refine hN30 _ ?_
        clear hN30 N30
        refine pwp_then fun N54 hN54 => ?_
        refine pwp_reg fun R55 hR55 => ?_
        refine pops_mv (.inl rfl) rfl (by simp only [St.eval, upd_at, Nat.reduceEqDiff, if_true, if_false, e0_2, e0_5, e0_55, e0_56, e0_57, encPV] <;> rfl) ?_
        refine pops_to rfl fun M hM => ?_
        simp only [pop, St.eval, constSlot, upd_at, Nat.reduceEqDiff, if_true, if_false, popCall, List.toList_toArray, List.map_cons, List.map_nil, svs, List.mapM_cons, List.mapM_nil, Option.bind_eq_bind, Option.bind_some, Option.pure_def, List.append_nil, List.cons_append, List.nil_append, str_size, e0_2, e0_5, e0_55, e0_56, e0_57, encPV]
        refine PFun.use (isPath_fun W0 hm _) fun h9 s9 => hM _ _ ?_
        replace s9 := Same.trans sl0 s9
        clear hM M
        refine pops_mv (.inr rfl) rfl (by simp only [St.eval, upd_at, Nat.reduceEqDiff, if_true, if_false, e0_2, e0_5, e0_55, e0_56, e0_57, encPV] <;> rfl) ?_
        refine pops_done (hR55 _ ?_)
        clear hR55 R55
        try simp only [thenK, scopeK]
        refine hN54 _ ?_
        clear hN54 N54
        refine pwp_ret ?_
        simp only [thenK, blockK, scopeK, bodyK]
        refine ⟨_, rfl, endFun s9 ?_⟩
        try simp only [upd_at, Nat.reduceEqDiff, if_true, if_false, e0_2, e0_5, e0_55, e0_56, e0_57, encPV]
        all_goals
         first
           | rfl
           | (rw [e1, hpt])
end Go.Pw
