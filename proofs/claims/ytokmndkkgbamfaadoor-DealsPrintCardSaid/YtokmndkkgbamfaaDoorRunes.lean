import Derived.Test.YtokmndkkgbamfaaDoorLib
import Derived.Test.YtokmndkkgbamfaaDoorPwY
namespace Go.Pw
open Go Go.RowKit Go.Proofs
set_option maxRecDepth 100000
set_option linter.unusedSimpArgs false
set_option linter.unusedVariables false
theorem nm52 : (Tryd.f52.name == "runtime.NumGoroutine") = false := by kernel_rfl
theorem indexRune_high (W0 : World) (cs : List UInt8) (r : Int) (hcs : ∀ b ∈ cs, b.toNat < 128) (hl : cs.length ≤ 4611686018427387904) (hr : 128 ≤ r) :
  PFun Tryd.prog W0 52 [.one (pstr cs), .one (.val (.int .i32 r))] (.sv (.one (pint (-1)))) := by
 intro h
 have hr0 : decide (0 ≤ r) = true := by simp; omega
 have hr1 : decide (r < 128) = false := by simp; omega
 obtain ⟨bs, hbs, hb2, hb4, hbh⟩ := encode_high r hr
 have hw := wrap_pred (n := bs.length) (by omega) (by omega)
 obtain ⟨z, hz⟩ : ∃ z, bs[bs.length - 1]? = some z := ⟨_, List.getElem?_eq_getElem (by omega)⟩
 have hzh := hbh z (List.mem_of_getElem? hz)
 refine pcalls2 (n := 187) Tryd.func52 rfl nm52 rfl fun hb => ?_
 refine pwp_then fun N1 hN1 => ?_
 refine pwp_reg fun R2 hR2 => ?_
 refine pops_to rfl fun M hM => ?_
 simp only [pop, St.eval, constSlot, upd_at, Nat.reduceEqDiff, if_true, if_false, eq_self, true_and, and_true, str_list, str_size, str_app, str_cut, str_get]
 refine hM _ _ ?_
 clear hM M
 refine pops_done (hR2 _ ?_)
 clear hR2 R2
 try simp only [thenK, scopeK]
 refine hN1 _ ?_
 clear hN1 N1
 refine pwp_block ?_
 refine pwp_then fun N3 hN3 => ?_
 refine pwp_reg fun R4 hR4 => ?_
 refine pops_to rfl fun M hM => ?_
 simp only [pop, St.eval, constSlot, upd_at, Nat.reduceEqDiff, if_true, if_false, eq_self, true_and, and_true, str_list, str_size, str_app, str_cut, str_get]
 refine hM _ _ ?_
 clear hM M
 refine pops_to rfl fun M hM => ?_
 simp only [pop, St.eval, constSlot, upd_at, Nat.reduceEqDiff, if_true, if_false, popBin, binK, intK, strK, eqK, eq_self, true_and, and_true, str_list, str_size, str_app, str_cut, str_get, hr0]
 refine hM _ _ ?_
 clear hM M
 refine pops_to rfl fun M hM => ?_
 simp only [pop, St.eval, constSlot, upd_at, Nat.reduceEqDiff, if_true, if_false, eq_self, true_and, and_true, str_list, str_size, str_app, str_cut, str_get]
 refine hM _ _ ?_
 clear hM M
 refine pops_do rfl rfl (by simp only [upd_at, Nat.reduceEqDiff, if_true, if_false]) fun M hM => ?_
 simp only [pop, St.eval, constSlot, upd_at, Nat.reduceEqDiff, if_true, if_false, eq_self, true_and, and_true, str_list, str_size, str_app, str_cut, str_get]
 refine hM _ _ ?_
 clear hM M
 refine pops_do rfl rfl (by simp only [upd_at, Nat.reduceEqDiff, if_true, if_false]) fun M hM => ?_
 simp only [pop, St.eval, constSlot, upd_at, Nat.reduceEqDiff, if_true, if_false, popBin, binK, intK, strK, eqK, eq_self, true_and, and_true, str_list, str_size, str_app, str_cut, str_get, hr1]
 refine hM _ _ ?_
 clear hM M
 refine pops_to rfl fun M hM => ?_
 simp only [pop, St.eval, constSlot, upd_at, Nat.reduceEqDiff, if_true, if_false, popIf, true_implies, false_implies, Bool.true_eq_false, Bool.false_eq_true, reduceCtorEq, eq_self, true_and, and_true, str_list, str_size, str_app, str_cut, str_get]
 refine hM _ _ ?_
 clear hM M
 refine pops_to rfl fun M hM => ?_
 simp only [pop, St.eval, constSlot, upd_at, Nat.reduceEqDiff, if_true, if_false, eq_self, true_and, and_true, str_list, str_size, str_app, str_cut, str_get]
 refine hM _ _ ?_
 clear hM M
 refine pops_done (hR4 _ ?_)
 clear hR4 R4
 try simp only [thenK, scopeK]
 refine hN3 _ ?_
 clear hN3 N3
 refine pwp_cond_false (by simp only [St.eval, upd_at, Nat.reduceEqDiff, if_true, if_false] <;> rfl) ?_
 refine pwp_then fun N5 hN5 => ?_
 refine pwp_reg fun R6 hR6 => ?_
 refine pops_to rfl fun M hM => ?_
 simp only [pop, St.eval, constSlot, upd_at, Nat.reduceEqDiff, if_true, if_false, eq_self, true_and, and_true, str_list, str_size, str_app, str_cut, str_get]
 refine hM _ _ ?_
 clear hM M
 refine pops_to rfl fun M hM => ?_
 simp only [pop, St.eval, constSlot, upd_at, Nat.reduceEqDiff, if_true, if_false, popBin, binK, intK, strK, eqK, Tryd.underlying21, isPtr, eq_self, true_and, and_true, str_list, str_size, str_app, str_cut, str_get]
 refine hM _ _ ?_
 clear hM M
 refine pops_to rfl fun M hM => ?_
 simp only [pop, St.eval, constSlot, upd_at, Nat.reduceEqDiff, if_true, if_false, eq_self, true_and, and_true, str_list, str_size, str_app, str_cut, str_get]
 refine hM _ _ ?_
 clear hM M
 refine pops_done (hR6 _ ?_)
 clear hR6 R6
 try simp only [thenK, scopeK]
 refine hN5 _ ?_
 clear hN5 N5
 refine pwp_cond (by simp only [St.eval, upd_at, Nat.reduceEqDiff, if_true, if_false] <;> rfl) (fun c171 => ?_) (fun c171 => ?_)
 ·skip
  refine pwp_then fun N7 hN7 => ?_
  refine pwp_rng 1 rfl rfl rfl rfl rfl Tryd.underlying9 fun R8 hR8 => ?_
  simp only [List.take_succ_cons, List.take_zero]
  refine pops_to rfl fun M hM => ?_
  simp only [pop, St.eval, constSlot, upd_at, Nat.reduceEqDiff, if_true, if_false, eq_self, true_and, and_true, str_list, str_size, str_app, str_cut, str_get]
  refine hM _ _ ?_
  clear hM M
  refine pops_done (hR8 _ ?_)
  clear hR8 R8
  refine ⟨_, by simp only [St.eval, constSlot, upd_at, Nat.reduceEqDiff, if_true, if_false] <;> rfl, fun kk => ⟨fun pos σ => (pos ≤ cs.length) ∧ (Same h σ.hp) ∧ (σ.env 0 = .sv (.one (pstr cs))) ∧ (σ.env 1 = .sv (.one (.val (.int .i32 r)))), ⟨_, .refl _ _, by simp only [St.put, upd, upd_at, Nat.reduceEqDiff, if_true, if_false], ?_⟩, ?_⟩⟩
  · exact ⟨Nat.zero_le _, (Same.refl _), by simp only [St.put, upd_at, Nat.reduceEqDiff, if_true, if_false], by simp only [St.put, upd_at, Nat.reduceEqDiff, if_true, if_false]⟩
  ·rintro pos e hp0 it0 ⟨hx0_0, sl0, e0_0, e0_1⟩
   simp only at sl0 e0_0 e0_1
   refine ⟨fun hlt => ?_, fun hge => ?_⟩
   ·skip
    have hlt' : pos < cs.length := by rw [str_size] at hlt; exact hlt
    obtain ⟨y, hy⟩ : ∃ y, cs[pos]? = some y := ⟨_, List.getElem?_eq_getElem hlt'⟩
    have hyl := hcs y (List.mem_of_getElem? hy)
    have hdec := decode_low hy hyl
    rw [hdec]
    have hyz : ((y.toNat : Int) == 65533) = false := by simp; omega
    refine pwp_then fun N9 hN9 => ?_
    refine pwp_cond_true (by simp only [St.eval, upd_at, Nat.reduceEqDiff, if_true, if_false, e0_0, e0_1, hyz] <;> rfl) ?_
    refine pwp_skip ?_
    try simp only [thenK, scopeK]
    refine hN9 _ ?_
    clear hN9 N9
    refine pwp_block ?_
    refine pwp_then fun N10 hN10 => ?_
    refine pwp_reg fun R11 hR11 => ?_
    refine pops_to rfl fun M hM => ?_
    simp only [pop, St.eval, constSlot, upd_at, Nat.reduceEqDiff, if_true, if_false, List.getElem?_toArray, List.getElem?_cons_zero, List.getElem?_cons_succ, eq_self, true_and, and_true, str_list, str_size, str_app, str_cut, str_get, e0_0, e0_1, hyz]
    refine hM _ _ ?_
    clear hM M
    refine pops_to rfl fun M hM => ?_
    simp only [pop, St.eval, constSlot, upd_at, Nat.reduceEqDiff, if_true, if_false, List.getElem?_toArray, List.getElem?_cons_zero, List.getElem?_cons_succ, eq_self, true_and, and_true, str_list, str_size, str_app, str_cut, str_get, e0_0, e0_1, hyz]
    refine hM _ _ ?_
    clear hM M
    refine pops_to rfl fun M hM => ?_
    simp only [pop, St.eval, constSlot, upd_at, Nat.reduceEqDiff, if_true, if_false, eq_self, true_and, and_true, str_list, str_size, str_app, str_cut, str_get, e0_0, e0_1, hyz]
    refine hM _ _ ?_
    clear hM M
    refine pops_to rfl fun M hM => ?_
    simp only [pop, St.eval, constSlot, upd_at, Nat.reduceEqDiff, if_true, if_false, eq_self, true_and, and_true, str_list, str_size, str_app, str_cut, str_get, e0_0, e0_1, hyz]
    refine hM _ _ ?_
    clear hM M
    refine pops_done (hR11 _ ?_)
    clear hR11 R11
    try simp only [thenK, scopeK]
    refine hN10 _ ?_
    clear hN10 N10
    refine pwp_then fun N12 hN12 => ?_
    refine pwp_reg fun R13 hR13 => ?_
    refine pops_to rfl fun M hM => ?_
    simp only [pop, St.eval, constSlot, upd_at, Nat.reduceEqDiff, if_true, if_false, eq_self, true_and, and_true, str_list, str_size, str_app, str_cut, str_get, e0_0, e0_1, hyz]
    refine hM _ _ ?_
    clear hM M
    refine pops_to rfl fun M hM => ?_
    simp only [pop, St.eval, constSlot, upd_at, Nat.reduceEqDiff, if_true, if_false, popBin, binK, intK, strK, eqK, Tryd.underlying21, isPtr, eq_self, true_and, and_true, str_list, str_size, str_app, str_cut, str_get, e0_0, e0_1, hyz]
    refine hM _ _ ?_
    clear hM M
    refine pops_done (hR13 _ ?_)
    clear hR13 R13
    try simp only [thenK, scopeK]
    refine hN12 _ ?_
    clear hN12 N12
    refine pwp_cond_false (by simp only [St.eval, upd_at, Nat.reduceEqDiff, if_true, if_false, e0_0, e0_1, hyz] <;> rfl) ?_
    refine pwp_skip ?_
    try simp only [blockK, thenK, scopeK]
    try simp only [thenK, scopeK]
    exact ⟨_, .refl _ _, by simp only [upd_at, Nat.reduceEqDiff, if_true, if_false, it0], by omega, sl0, by simp only [upd_at, Nat.reduceEqDiff, if_true, if_false, e0_0, e0_1, hyz], by simp only [upd_at, Nat.reduceEqDiff, if_true, if_false, e0_0, e0_1, hyz]⟩
   ·skip
    refine pwp_then fun N14 hN14 => ?_
    refine pwp_cond_false (by simp only [St.eval, upd_at, Nat.reduceEqDiff, if_true, if_false, e0_0, e0_1] <;> rfl) ?_
    refine pwp_exit ?_
    try simp only [thenK, blockK, scopeK, if_true, Nat.reduceEqDiff, if_false]
    clear hN14 N14
    try simp only [blockK, scopeK, if_true, Nat.reduceEqDiff, if_false, thenK]
    try simp only [thenK, scopeK]
    refine hN7 _ ?_
    clear hN7 N7
    refine pwp_then fun N15 hN15 => ?_
    refine pwp_reg fun R16 hR16 => ?_
    refine pops_to rfl fun M hM => ?_
    simp only [pop, St.eval, constSlot, upd_at, Nat.reduceEqDiff, if_true, if_false, eq_self, true_and, and_true, str_list, str_size, str_app, str_cut, str_get, e0_0, e0_1]
    refine hM _ _ ?_
    clear hM M
    refine pops_done (hR16 _ ?_)
    clear hR16 R16
    try simp only [thenK, scopeK]
    refine hN15 _ ?_
    clear hN15 N15
    refine pwp_ret ?_
    simp only [thenK, blockK, scopeK, bodyK]
    refine ⟨_, rfl, endFun sl0 ?_⟩
    try simp only [upd_at, Nat.reduceEqDiff, if_true, if_false, e0_0, e0_1]
    all_goals
     rfl
 ·skip
  refine pwp_then fun N17 hN17 => ?_
  refine pwp_reg fun R18 hR18 => ?_
  refine pops_to rfl fun M hM => ?_
  simp only [pop, St.eval, constSlot, upd_at, Nat.reduceEqDiff, if_true, if_false, eq_self, true_and, and_true, str_list, str_size, str_app, str_cut, str_get]
  refine hM _ _ ?_
  clear hM M
  refine pops_to rfl fun M hM => ?_
  simp only [pop, St.eval, constSlot, upd_at, Nat.reduceEqDiff, if_true, if_false, popCall, List.toList_toArray, List.map_cons, List.map_nil, svs, List.mapM_cons, List.mapM_nil, Option.bind_eq_bind, Option.bind_some, Option.pure_def, List.append_nil, List.cons_append, List.nil_append, eq_self, true_and, and_true, str_list, str_size, str_app, str_cut, str_get]
  refine PFun.use (validRune_fun W0 r) fun h1 s1 => hM _ _ ?_
  replace s1 := Same.trans (Same.refl _) s1
  clear hM M
  refine pops_to rfl fun M hM => ?_
  simp only [pop, St.eval, constSlot, upd_at, Nat.reduceEqDiff, if_true, if_false, unK, eq_self, true_and, and_true, str_list, str_size, str_app, str_cut, str_get]
  refine hM _ _ ?_
  clear hM M
  refine pops_to rfl fun M hM => ?_
  simp only [pop, St.eval, constSlot, upd_at, Nat.reduceEqDiff, if_true, if_false, eq_self, true_and, and_true, str_list, str_size, str_app, str_cut, str_get]
  refine hM _ _ ?_
  clear hM M
  refine pops_done (hR18 _ ?_)
  clear hR18 R18
  try simp only [thenK, scopeK]
  refine hN17 _ ?_
  clear hN17 N17
  refine pwp_cond (by simp only [St.eval, upd_at, Nat.reduceEqDiff, if_true, if_false] <;> rfl) (fun c183 => ?_) (fun c183 => ?_)
  ·skip
   refine pwp_then fun N19 hN19 => ?_
   refine pwp_reg fun R20 hR20 => ?_
   refine pops_to rfl fun M hM => ?_
   simp only [pop, St.eval, constSlot, upd_at, Nat.reduceEqDiff, if_true, if_false, eq_self, true_and, and_true, str_list, str_size, str_app, str_cut, str_get]
   refine hM _ _ ?_
   clear hM M
   refine pops_done (hR20 _ ?_)
   clear hR20 R20
   try simp only [thenK, scopeK]
   refine hN19 _ ?_
   clear hN19 N19
   refine pwp_ret ?_
   simp only [thenK, blockK, scopeK, bodyK]
   refine ⟨_, rfl, endFun s1 ?_⟩
   try simp only [upd_at, Nat.reduceEqDiff, if_true, if_false]
   all_goals
    rfl
  ·skip
   refine pwp_scope ?_
   refine pwp_then fun N21 hN21 => ?_
   refine pwp_reg fun R22 hR22 => ?_
   refine pops_to rfl fun M hM => ?_
   simp only [pop, St.eval, constSlot, upd_at, Nat.reduceEqDiff, if_true, if_false, eq_self, true_and, and_true, str_list, str_size, str_app, str_cut, str_get]
   refine hM _ _ ?_
   clear hM M
   refine pops_to rfl fun M hM => ?_
   simp only [pop, St.eval, constSlot, upd_at, Nat.reduceEqDiff, if_true, if_false, popConvert, Tryd.underlying21, Tryd.underlying9, eq_self, true_and, and_true, str_list, str_size, str_app, str_cut, str_get, hbs]
   refine hM _ _ ?_
   clear hM M
   refine pops_to rfl fun M hM => ?_
   simp only [pop, St.eval, constSlot, upd_at, Nat.reduceEqDiff, if_true, if_false, eq_self, true_and, and_true, str_list, str_size, str_app, str_cut, str_get]
   refine hM _ _ ?_
   clear hM M
   refine pops_done (hR22 _ ?_)
   clear hR22 R22
   try simp only [thenK, scopeK]
   refine hN21 _ ?_
   clear hN21 N21
   refine pwp_then fun N23 hN23 => ?_
   refine pwp_reg fun R24 hR24 => ?_
   refine pops_to rfl fun M hM => ?_
   simp only [pop, St.eval, constSlot, upd_at, Nat.reduceEqDiff, if_true, if_false, eq_self, true_and, and_true, str_list, str_size, str_app, str_cut, str_get]
   refine hM _ _ ?_
   clear hM M
   refine pops_to rfl fun M hM => ?_
   simp only [pop, St.eval, constSlot, upd_at, Nat.reduceEqDiff, if_true, if_false, popCall, List.toList_toArray, List.map_cons, List.map_nil, popBuiltin, popLen, lenOfSlot, List.length_map, Tryd.underlying9, eq_self, true_and, and_true, str_list, str_size, str_app, str_cut, str_get]
   refine hM _ _ ?_
   clear hM M
   refine pops_to rfl fun M hM => ?_
   simp only [pop, St.eval, constSlot, upd_at, Nat.reduceEqDiff, if_true, if_false, popBin, binK, intK, strK, eqK, eq_self, true_and, and_true, str_list, str_size, str_app, str_cut, str_get, hw]
   refine hM _ _ ?_
   clear hM M
   refine pops_to rfl fun M hM => ?_
   simp only [pop, St.eval, constSlot, upd_at, Nat.reduceEqDiff, if_true, if_false, eq_self, true_and, and_true, str_list, str_size, str_app, str_cut, str_get]
   refine hM _ _ ?_
   clear hM M
   refine pops_done (hR24 _ ?_)
   clear hR24 R24
   try simp only [thenK, scopeK]
   refine hN23 _ ?_
   clear hN23 N23
   refine pwp_then fun N25 hN25 => ?_
   refine pwp_reg fun R26 hR26 => ?_
   refine pops_to rfl fun M hM => ?_
   simp only [pop, St.eval, constSlot, upd_at, Nat.reduceEqDiff, if_true, if_false, eq_self, true_and, and_true, str_list, str_size, str_app, str_cut, str_get]
   refine hM _ _ ?_
   clear hM M
   refine pops_to rfl fun M hM => ?_
   simp only [pop, St.eval, constSlot, upd_at, Nat.reduceEqDiff, if_true, if_false, eq_self, true_and, and_true, str_list, str_size, str_app, str_cut, str_get]
   refine hM _ _ ?_
   clear hM M
   refine pops_done (hR26 _ ?_)
   clear hR26 R26
   try simp only [thenK, scopeK]
   refine hN25 _ ?_
   clear hN25 N25
   refine pwp_then fun N27 hN27 => ?_
   refine pwp_reg fun R28 hR28 => ?_
   refine pops_to rfl fun M hM => ?_
   simp only [pop, St.eval, constSlot, upd_at, Nat.reduceEqDiff, if_true, if_false, eq_self, true_and, and_true, str_list, str_size, str_app, str_cut, str_get]
   refine hM _ _ ?_
   clear hM M
   refine pops_done (hR28 _ ?_)
   clear hR28 R28
   try simp only [thenK, scopeK]
   refine hN27 _ ?_
   clear hN27 N27
   refine pwp_then fun N29 hN29 => ?_
   refine pwp_block ?_
   refine pwp_loop (fun k σ => (k = 0) ∧ (Same h σ.hp) ∧ (σ.env 0 = .sv (.one (pstr cs))) ∧ (σ.env 1 = .sv (.one (.val (.int .i32 r)))) ∧ (σ.env 7 = .sv (.one (pstr bs))) ∧ (σ.env 8 = .sv (.one (pint ((bs.length - 1 : Nat) : Int)))) ∧ (σ.env 9 = .sv (.one (pint ((bs.length - 1 : Nat) : Int))))) _ ⟨_, .refl _ _, rfl, ?_⟩ ?_
   · exact ⟨s1, by simp only [upd_at, Nat.reduceEqDiff, if_true, if_false], by simp only [upd_at, Nat.reduceEqDiff, if_true, if_false], by simp only [upd_at, Nat.reduceEqDiff, if_true, if_false], by simp only [upd_at, Nat.reduceEqDiff, if_true, if_false], by simp only [upd_at, Nat.reduceEqDiff, if_true, if_false]⟩
   ·rintro k ⟨e, hp1⟩ ⟨hk1, sl1, e1_0, e1_1, e1_7, e1_8, e1_9⟩
    simp only at sl1 e1_0 e1_1 e1_7 e1_8 e1_9
    refine pwp_then fun N30 hN30 => ?_
    refine pwp_then fun N31 hN31 => ?_
    refine pwp_reg fun R32 hR32 => ?_
    refine pops_to rfl fun M hM => ?_
    simp only [pop, St.eval, constSlot, upd_at, Nat.reduceEqDiff, if_true, if_false, eq_self, true_and, and_true, str_list, str_size, str_app, str_cut, str_get, e1_0, e1_1, e1_7, e1_8, e1_9]
    refine hM _ _ ?_
    clear hM M
    refine pops_to rfl fun M hM => ?_
    simp only [pop, St.eval, constSlot, upd_at, Nat.reduceEqDiff, if_true, if_false, eq_self, true_and, and_true, str_list, str_size, str_app, str_cut, str_get, e1_0, e1_1, e1_7, e1_8, e1_9]
    refine hM _ _ ?_
    clear hM M
    refine pops_to rfl fun M hM => ?_
    simp only [pop, St.eval, constSlot, upd_at, Nat.reduceEqDiff, if_true, if_false, popCall, List.toList_toArray, List.map_cons, List.map_nil, popBuiltin, popLen, lenOfSlot, List.length_map, Tryd.underlying9, eq_self, true_and, and_true, str_list, str_size, str_app, str_cut, str_get, e1_0, e1_1, e1_7, e1_8, e1_9]
    refine hM _ _ ?_
    clear hM M
    refine pops_to rfl fun M hM => ?_
    simp only [pop, St.eval, constSlot, upd_at, Nat.reduceEqDiff, if_true, if_false, popBin, binK, intK, strK, eqK, eq_self, true_and, and_true, str_list, str_size, str_app, str_cut, str_get, e1_0, e1_1, e1_7, e1_8, e1_9]
    refine hM _ _ ?_
    clear hM M
    refine pops_done (hR32 _ ?_)
    clear hR32 R32
    try simp only [thenK, scopeK]
    refine hN31 _ ?_
    clear hN31 N31
    refine pwp_cond (by simp only [St.eval, upd_at, Nat.reduceEqDiff, if_true, if_false, e1_0, e1_1, e1_7, e1_8, e1_9] <;> rfl) (fun c26 => ?_) (fun c26 => ?_)
    ·skip
     have hi : bs.length - 1 < cs.length := by have := of_decide_eq_true c26; omega
     obtain ⟨y, hy⟩ : ∃ y, cs[bs.length - 1]? = some y := ⟨_, List.getElem?_eq_getElem hi⟩
     have hyl := hcs y (List.mem_of_getElem? hy)
     have hyz : ((y.toNat : Int) != (z.toNat : Int)) = true := by simp; omega
     have hw2 := wrap_succ (i := bs.length - 1) (by omega)
     refine pwp_skip ?_
     try simp only [thenK, scopeK]
     refine hN30 _ ?_
     clear hN30 N30
     refine pwp_block ?_
     refine pwp_scope ?_
     refine pwp_then fun N33 hN33 => ?_
     refine pwp_then fun N34 hN34 => ?_
     refine pwp_dreg 7 mixed (by decide +kernel) fun R35 hR35 => ?_
     simp only [List.take_succ_cons, List.take_zero, List.drop_succ_cons, List.drop_zero]
     apply lex_to
     · rfl
     ·intro h' s' M hM
      simp only [pop, St.eval, constSlot, upd_at, Nat.reduceEqDiff, if_true, if_false, eq_self, true_and, and_true, str_list, str_size, str_app, str_cut, str_get, e1_0, e1_1, e1_7, e1_8, e1_9, s'.1]
      exact hM _ (.refl _)
     apply lex_to
     · rfl
     ·intro h' s' M hM
      simp only [pop, St.eval, constSlot, upd_at, Nat.reduceEqDiff, if_true, if_false, eq_self, true_and, and_true, str_list, str_size, str_app, str_cut, str_get, e1_0, e1_1, e1_7, e1_8, e1_9, s'.1]
      exact hM _ (.refl _)
     apply lex_to
     · rfl
     ·intro h' s' M hM
      simp only [pop, St.eval, constSlot, upd_at, Nat.reduceEqDiff, if_true, if_false, popIndex, partK, Tryd.underlying9, eq_self, true_and, and_true, str_list, str_size, str_app, str_cut, str_get, e1_0, e1_1, e1_7, e1_8, e1_9, hy, Int.toNat_natCast, s'.1]
      refine ⟨Int.natCast_nonneg _, ?_⟩
      exact hM _ (.refl _)
     apply lex_to
     · rfl
     ·intro h' s' M hM
      simp only [pop, St.eval, constSlot, upd_at, Nat.reduceEqDiff, if_true, if_false, eq_self, true_and, and_true, str_list, str_size, str_app, str_cut, str_get, e1_0, e1_1, e1_7, e1_8, e1_9, s'.1]
      exact hM _ (.refl _)
     apply lex_to
     · rfl
     ·intro h' s' M hM
      simp only [pop, St.eval, constSlot, upd_at, Nat.reduceEqDiff, if_true, if_false, eq_self, true_and, and_true, str_list, str_size, str_app, str_cut, str_get, e1_0, e1_1, e1_7, e1_8, e1_9, s'.1]
      exact hM _ (.refl _)
     apply lex_to
     · rfl
     ·intro h' s' M hM
      simp only [pop, St.eval, constSlot, upd_at, Nat.reduceEqDiff, if_true, if_false, popIndex, partK, Tryd.underlying9, eq_self, true_and, and_true, str_list, str_size, str_app, str_cut, str_get, e1_0, e1_1, e1_7, e1_8, e1_9, hz, Int.toNat_natCast, s'.1]
      refine ⟨Int.natCast_nonneg _, ?_⟩
      exact hM _ (.refl _)
     apply lex_to
     · rfl
     ·intro h' s' M hM
      simp only [pop, St.eval, constSlot, upd_at, Nat.reduceEqDiff, if_true, if_false, popBin, binK, intK, strK, eqK, Tryd.underlying5, isPtr, eq_self, true_and, and_true, str_list, str_size, str_app, str_cut, str_get, e1_0, e1_1, e1_7, e1_8, e1_9, hyz, s'.1]
      exact hM _ (.refl _)
     refine lex_done fun hq sq => ?_
     replace sq := Same.trans sl1 sq
     refine pops_done (hR35 _ ?_)
     clear hR35 R35
     try simp only [thenK, scopeK]
     refine hN34 _ ?_
     clear hN34 N34
     refine pwp_cond_true (by simp only [St.eval, upd_at, Nat.reduceEqDiff, if_true, if_false, e1_0, e1_1, e1_7, e1_8, e1_9] <;> rfl) ?_
     refine pwp_then fun N36 hN36 => ?_
     refine pwp_dreg 9 mixed (by decide +kernel) fun R37 hR37 => ?_
     simp only [List.take_succ_cons, List.take_zero, List.drop_succ_cons, List.drop_zero]
     apply lex_to
     · rfl
     ·intro h' s' M hM
      simp only [pop, St.eval, constSlot, upd_at, Nat.reduceEqDiff, if_true, if_false, eq_self, true_and, and_true, str_list, str_size, str_app, str_cut, str_get, e1_0, e1_1, e1_7, e1_8, e1_9, s'.1]
      exact hM _ (.refl _)
     apply lex_to
     · rfl
     ·intro h' s' M hM
      simp only [pop, St.eval, constSlot, upd_at, Nat.reduceEqDiff, if_true, if_false, eq_self, true_and, and_true, str_list, str_size, str_app, str_cut, str_get, e1_0, e1_1, e1_7, e1_8, e1_9, s'.1]
      exact hM _ (.refl _)
     apply lex_to
     · rfl
     ·intro h' s' M hM
      simp only [pop, St.eval, constSlot, upd_at, Nat.reduceEqDiff, if_true, if_false, popBin, binK, intK, strK, eqK, eq_self, true_and, and_true, str_list, str_size, str_app, str_cut, str_get, e1_0, e1_1, e1_7, e1_8, e1_9, hw2, s'.1]
      exact hM _ (.refl _)
     apply lex_to
     · rfl
     ·intro h' s' M hM
      simp only [pop, St.eval, constSlot, upd_at, Nat.reduceEqDiff, if_true, if_false, popSlice, boundOf, Option.map_none, Option.map_some, Tryd.underlying9, eq_self, true_and, and_true, str_list, str_size, str_app, str_cut, str_get, e1_0, e1_1, e1_7, e1_8, e1_9, s'.1]
      refine ⟨Int.natCast_nonneg _, by omega, by omega, ?_⟩
      exact hM _ (.refl _)
     apply lex_to
     · rfl
     ·intro h' s' M hM
      simp only [pop, St.eval, constSlot, upd_at, Nat.reduceEqDiff, if_true, if_false, eq_self, true_and, and_true, str_list, str_size, str_app, str_cut, str_get, e1_0, e1_1, e1_7, e1_8, e1_9, s'.1]
      exact hM _ (.refl _)
     apply lex_to
     · rfl
     ·intro h' s' M hM
      simp only [pop, St.eval, constSlot, upd_at, Nat.reduceEqDiff, if_true, if_false, eq_self, true_and, and_true, str_list, str_size, str_app, str_cut, str_get, e1_0, e1_1, e1_7, e1_8, e1_9, s'.1]
      exact hM _ (.refl _)
     apply lex_to
     · rfl
     ·intro h' s' M hM
      simp only [pop, St.eval, constSlot, upd_at, Nat.reduceEqDiff, if_true, if_false, popIndex, partK, Tryd.underlying9, eq_self, true_and, and_true, str_list, str_size, str_app, str_cut, str_get, e1_0, e1_1, e1_7, e1_8, e1_9, hz, Int.toNat_natCast, s'.1]
      refine ⟨Int.natCast_nonneg _, ?_⟩
      exact hM _ (.refl _)
     apply lex_to
     · rfl
     ·intro h' s' M hM
      simp only [pop, St.eval, constSlot, upd_at, Nat.reduceEqDiff, if_true, if_false, popCall, List.toList_toArray, List.map_cons, List.map_nil, svs, List.mapM_cons, List.mapM_nil, Option.bind_eq_bind, Option.bind_some, Option.pure_def, List.append_nil, List.cons_append, List.nil_append, eq_self, true_and, and_true, str_list, str_size, str_app, str_cut, str_get, e1_0, e1_1, e1_7, e1_8, e1_9, s'.1]
      refine PFun.use (indexByte_fun W0 _ z) fun hp s => ?_
      rw [indexByte_not (fun hm => ?_)]
      · exact hM _ s
      · have h1 := hcs z (List.mem_of_mem_take (List.mem_of_mem_drop hm))
        omega
     apply lex_to
     · rfl
     ·intro h' s' M hM
      simp only [pop, St.eval, constSlot, upd_at, Nat.reduceEqDiff, if_true, if_false, eq_self, true_and, and_true, str_list, str_size, str_app, str_cut, str_get, e1_0, e1_1, e1_7, e1_8, e1_9, s'.1]
      exact hM _ (.refl _)
     refine lex_done fun hq2 sq2 => ?_
     replace sq2 := Same.trans sq sq2
     refine pops_done (hR37 _ ?_)
     clear hR37 R37
     try simp only [thenK, scopeK]
     refine hN36 _ ?_
     clear hN36 N36
     refine pwp_then fun N38 hN38 => ?_
     refine pwp_then fun N39 hN39 => ?_
     refine pwp_reg fun R40 hR40 => ?_
     refine pops_to rfl fun M hM => ?_
     simp only [pop, St.eval, constSlot, upd_at, Nat.reduceEqDiff, if_true, if_false, eq_self, true_and, and_true, str_list, str_size, str_app, str_cut, str_get, e1_0, e1_1, e1_7, e1_8, e1_9]
     refine hM _ _ ?_
     clear hM M
     refine pops_to rfl fun M hM => ?_
     simp only [pop, St.eval, constSlot, upd_at, Nat.reduceEqDiff, if_true, if_false, popBin, binK, intK, strK, eqK, eq_self, true_and, and_true, str_list, str_size, str_app, str_cut, str_get, e1_0, e1_1, e1_7, e1_8, e1_9]
     refine hM _ _ ?_
     clear hM M
     refine pops_done (hR40 _ ?_)
     clear hR40 R40
     try simp only [thenK, scopeK]
     refine hN39 _ ?_
     clear hN39 N39
     refine pwp_cond_true (by simp only [St.eval, upd_at, Nat.reduceEqDiff, if_true, if_false, e1_0, e1_1, e1_7, e1_8, e1_9] <;> rfl) ?_
     refine pwp_then fun N41 hN41 => ?_
     refine pwp_reg fun R42 hR42 => ?_
     refine pops_to rfl fun M hM => ?_
     simp only [pop, St.eval, constSlot, upd_at, Nat.reduceEqDiff, if_true, if_false, eq_self, true_and, and_true, str_list, str_size, str_app, str_cut, str_get, e1_0, e1_1, e1_7, e1_8, e1_9]
     refine hM _ _ ?_
     clear hM M
     refine pops_done (hR42 _ ?_)
     clear hR42 R42
     try simp only [thenK, scopeK]
     refine hN41 _ ?_
     clear hN41 N41
     refine pwp_ret ?_
     simp only [thenK, blockK, scopeK, bodyK]
     clear hN38 N38 hN33 N33 hN29 N29
     refine ⟨_, rfl, endFun sq2 ?_⟩
     try simp only [upd_at, Nat.reduceEqDiff, if_true, if_false, e1_0, e1_1, e1_7, e1_8, e1_9]
     all_goals
      rfl
    ·skip
     refine pwp_exit ?_
     try simp only [thenK, blockK, scopeK, if_true, Nat.reduceEqDiff, if_false]
     clear hN30 N30
     try simp only [blockK, scopeK, if_true, Nat.reduceEqDiff, if_false, thenK]
     try simp only [thenK, scopeK]
     refine hN29 _ ?_
     clear hN29 N29
     refine pwp_then fun N43 hN43 => ?_
     refine pwp_then fun N44 hN44 => ?_
     refine pwp_reg fun R45 hR45 => ?_
     refine pops_to rfl fun M hM => ?_
     simp only [pop, St.eval, constSlot, upd_at, Nat.reduceEqDiff, if_true, if_false, eq_self, true_and, and_true, str_list, str_size, str_app, str_cut, str_get, e1_0, e1_1, e1_7, e1_8, e1_9]
     refine hM _ _ ?_
     clear hM M
     refine pops_done (hR45 _ ?_)
     clear hR45 R45
     try simp only [thenK, scopeK]
     refine hN44 _ ?_
     clear hN44 N44
     refine pwp_ret ?_
     simp only [thenK, blockK, scopeK, bodyK]
     clear hN43 N43
     refine ⟨_, rfl, endFun sl1 ?_⟩
     try simp only [upd_at, Nat.reduceEqDiff, if_true, if_false, e1_0, e1_1, e1_7, e1_8, e1_9]
     all_goals
      rfl
end Go.Pw
