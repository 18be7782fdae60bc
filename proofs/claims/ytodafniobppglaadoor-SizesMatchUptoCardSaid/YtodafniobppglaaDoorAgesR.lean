import Derived.Test.YtodafniobppglaaDoorAgesP2
namespace Go.Pw
open Go Go.RowKit Go.Proofs
set_option maxRecDepth 100000
set_option linter.unusedSimpArgs false
set_option linter.unusedVariables false
theorem sz5 : szOf Tryd.prog 5 = some 1 := by kernel_rfl
theorem pops_toBytes {P : Program} {W0 : World} {n : Nat} {ops : Array Oper} {N : St → Prop} {rest : List Oper} {e0 : Nat → Slot} {h : Hp} {d : Nat} {ts t t8 ty : TypeId} {pos : String} {af : Array Edge} {y : Operand} {l : List UInt8}
    (hok : hpOk h) (hd : decide (d < n) = true) (hs : P.underlying ts = some .string) (ht : P.underlying t = some (.slice t8)) (h8 : P.underlying t8 = some (.int .u8))
    (hy : (⟨e0, h⟩ : St).eval y = .sv (.one (pstr l))) (hl : l.length ≤ 9223372036854775807) (H : ∀ h', Same h h' → pops P W0 n ops N rest ⟨upd e0 d (.sv (.one (.ro false 1 (l.map byteCell)))), h'⟩) :
    pops P W0 n ops N (⟨some d, .convert ts t y, ty, pos, af, none⟩ :: rest) ⟨e0, h⟩ := by
  refine pops_to hd fun M hM => ?_
  show popConvert P ts t ((⟨e0, h⟩ : St).eval y) h M
  rw [hy]
  refine toBytes hs ht h8 hl fun id hid => hM _ _ ?_
  refine pops_wk (H ⟨h.blk, id + 1⟩ ⟨rfl, by simp only; omega⟩) ⟨⟨fun j b hb => ?_, Nat.le_refl _⟩, fun w m R i v hl => ?_⟩
  · have := hok j b hb
    simp only [Hp.new]
    rw [if_neg (by omega)]
    exact hb
  · have X : Ext w (h.new id (bytesBlk t8 l)) m w ⟨h.blk, id + 1⟩ m := by
      refine Less.ext ⟨fun j b hb => ?_, Nat.le_refl _⟩
      have := hok j b hb
      simp only [Hp.new]
      rw [if_neg (by omega)]
      exact hb
    have hl' : LR w (h.new id (bytesBlk t8 l)) m (upd e0 d (.sv (.one (.own id 0 0 l.length))) i) v := hl
    simp only [upd] at hl' ⊢
    split
    · rename_i hi
      rw [if_pos hi] at hl'
      have hb : (h.new id (bytesBlk t8 l)).blk id = some (bytesBlk t8 l) := blk_new _ _ _
      have := vr_freeze R hb rfl hl'
      have e : (bytesBlk t8 l).es.take l.length = l.map byteCell := List.take_of_length_le (by simp [bytesBlk])
      rw [e] at this
      refine VR.ext this (h' := ⟨h.blk, id + 1⟩) (Less.ext ⟨fun j b hb => ?_, Nat.le_refl _⟩)
      have := hok j b hb
      simp only [Hp.drop, Hp.new]
      rw [if_neg (by omega), if_neg (by omega)]
      exact hb
    · rename_i hi
      rw [if_neg hi] at hl'
      exact hl'.ext X

def puB (d : List UInt8) : Bool := decide (9223372036854775807 < decV d)
def puV (d : List UInt8) : Nat := if 9223372036854775807 < decV d then 9223372036854775807 else decV d
def puE (d : List UInt8) : PV := if puB d then .ifc 156 false [pint 1] else .val .nilIface
theorem pu_big {d : List UInt8} (i : Nat) (h : 9223372036854775807 < decV (d.take i)) : puB d = true ∧ puV d = 9223372036854775807 := by
  have e : decV d = (d.drop i).foldl decS (decV (d.take i)) := by rw [← decV_append, List.take_append_drop]
  have := decS_le (d.drop i) (decV (d.take i))
  exact ⟨decide_eq_true (by omega), if_pos (by omega)⟩
theorem pu_small {d : List UInt8} (h : decV d ≤ 9223372036854775807) : puB d = false ∧ puV d = decV d := ⟨decide_eq_false (by omega), if_neg (by omega)⟩
theorem wrap_u64 {x : Int} (h1 : 0 ≤ x) (h2 : x < 18446744073709551616) : IntKind.u64.wrap x = x := by
  have : IntKind.u64.wrap x = x % 18446744073709551616 := by simp [IntKind.wrap, IntKind.bits, IntKind.signed]
  omega
theorem wrap_u64' {x : Int} (h1 : 18446744073709551616 ≤ x) (h2 : x < 36893488147419103232) : IntKind.u64.wrap x = x - 18446744073709551616 := by
  have : IntKind.u64.wrap x = x % 18446744073709551616 := by simp [IntKind.wrap, IntKind.bits, IntKind.signed]
  omega
theorem max63 : IntKind.u64.wrap (IntKind.u64.wrap (1 * 2 ^ (min (IntKind.u64.wrap 63).toNat IntKind.u64.bits)) - 1) = 9223372036854775807 := by decide
theorem max63' : IntKind.u64.wrap (9223372036854775808 - 1) = 9223372036854775807 := by decide
theorem shl63 : IntKind.u64.wrap (1 * 2 ^ (min (Int.toNat 63) IntKind.u64.bits)) = 9223372036854775808 := by decide
theorem nm93 : (Tryd.f93.name == "runtime.NumGoroutine") = false := by kernel_rfl
set_option maxHeartbeats 4000000 in
theorem pu_fun (W0 : World) (d : List UInt8) (hd : ∀ c ∈ d, digitB c = true) (hne : d ≠ []) (hs : d.length ≤ 9223372036854775806) :
  PFun Tryd.prog W0 93 [.one (pstr d), .one (pint 10), .one (pint 63)] (.tup [.one (.val (.int .u64 (puV d : Nat))), .one (puE d)]) := by
 intro h
 refine pcalls3 (n := 172) Tryd.func93 rfl nm93 rfl fun hb => ?_
 refine pwp_then fun N1 hN1 => ?_
 refine pwp_reg fun R2 hR2 => ?_
 refine pops_mv (.inr rfl) rfl (by simp only [St.eval, constSlot] <;> rfl) ?_
 refine pops_mv (.inr rfl) rfl (by simp only [St.eval, constSlot] <;> rfl) ?_
 refine pops_done (hR2 _ ?_)
 clear hR2 R2
 try simp only [thenK, scopeK]
 refine hN1 _ ?_
 clear hN1 N1
 refine pwp_then fun N3 hN3 => ?_
 refine pwp_then fun N4 hN4 => ?_
 refine pwp_reg fun R5 hR5 => ?_
 refine pops_mv (.inl rfl) rfl (by simp only [St.eval, upd_at, Nat.reduceEqDiff, if_true, if_false] <;> rfl) ?_
 refine pops_to rfl fun M hM => ?_
 simp only [pop, St.eval, constSlot, upd_at, Nat.reduceEqDiff, if_true, if_false, popBin, binK, intK, strK, eqK, Tryd.underlying9, isPtr, eq_self, true_and, and_true, str_list, str_size, str_app, str_cut, str_get]
 refine hM _ _ ?_
 clear hM M
 refine pops_done (hR5 _ ?_)
 clear hR5 R5
 try simp only [thenK, scopeK]
 refine hN4 _ ?_
 clear hN4 N4
 refine pwp_cond (by simp only [St.eval, upd_at, Nat.reduceEqDiff, if_true, if_false] <;> rfl) (fun c19 => ?_) (fun c19 => ?_)
 ·skip
  exact absurd (by simpa using c19) hne
 ·skip
  refine pwp_skip ?_
  try simp only [thenK, scopeK]
  refine hN3 _ ?_
  clear hN3 N3
  refine pwp_then fun N6 hN6 => ?_
  refine pwp_reg fun R7 hR7 => ?_
  refine pops_mv (.inl rfl) rfl (by simp only [St.eval, upd_at, Nat.reduceEqDiff, if_true, if_false] <;> rfl) ?_
  refine pops_to rfl fun M hM => ?_
  simp only [pop, St.eval, constSlot, upd_at, Nat.reduceEqDiff, if_true, if_false, popBin, binK, intK, strK, eqK, Tryd.underlying3, isPtr, eq_self, true_and, and_true, Int.reduceBEq]
  refine hM _ _ ?_
  clear hM M
  refine pops_mv (.inr rfl) rfl (by simp only [St.eval, upd_at, Nat.reduceEqDiff, if_true, if_false] <;> rfl) ?_
  refine pops_done (hR7 _ ?_)
  clear hR7 R7
  try simp only [thenK, scopeK]
  refine hN6 _ ?_
  clear hN6 N6
  refine pwp_then fun N8 hN8 => ?_
  refine pwp_reg fun R9 hR9 => ?_
  refine pops_mv (.inl rfl) rfl (by simp only [St.eval, upd_at, Nat.reduceEqDiff, if_true, if_false] <;> rfl) ?_
  refine pops_mv (.inr rfl) rfl (by simp only [St.eval, upd_at, Nat.reduceEqDiff, if_true, if_false] <;> rfl) ?_
  refine pops_done (hR9 _ ?_)
  clear hR9 R9
  try simp only [thenK, scopeK]
  refine hN8 _ ?_
  clear hN8 N8
  refine pwp_then fun N10 hN10 => ?_
  refine pwp_block ?_
  refine pwp_then fun N11 hN11 => ?_
  refine pwp_reg fun R12 hR12 => ?_
  refine pops_mv (.inl rfl) rfl (by simp only [St.eval, upd_at, Nat.reduceEqDiff, if_true, if_false] <;> rfl) ?_
  refine pops_to rfl fun M hM => ?_
  simp only [pop, St.eval, constSlot, upd_at, Nat.reduceEqDiff, if_true, if_false, popBin, binK, intK, strK, eqK, eq_self, true_and, and_true, Int.reduceLE, decide_true]
  refine hM _ _ ?_
  clear hM M
  refine pops_mv (.inl rfl) rfl (by simp only [St.eval, upd_at, Nat.reduceEqDiff, if_true, if_false] <;> rfl) ?_
  refine pops_mvg (.inl rfl) rfl rfl (by simp only [upd_at, Nat.reduceEqDiff, if_true, if_false]) (by simp only [St.eval, upd_at, Nat.reduceEqDiff, if_true, if_false] <;> rfl) ?_
  refine pops_do rfl rfl (by simp only [upd_at, Nat.reduceEqDiff, if_true, if_false]) fun M hM => ?_
  simp only [pop, St.eval, constSlot, upd_at, Nat.reduceEqDiff, if_true, if_false, popBin, binK, intK, strK, eqK, eq_self, true_and, and_true, Int.reduceLE, decide_true]
  refine hM _ _ ?_
  clear hM M
  refine pops_to rfl fun M hM => ?_
  simp only [pop, St.eval, constSlot, upd_at, Nat.reduceEqDiff, if_true, if_false, popIf, true_implies, false_implies, Bool.true_eq_false, Bool.false_eq_true, reduceCtorEq, true_and, and_true]
  refine hM _ _ ?_
  clear hM M
  refine pops_mv (.inr rfl) rfl (by simp only [St.eval, upd_at, Nat.reduceEqDiff, if_true, if_false] <;> rfl) ?_
  refine pops_done (hR12 _ ?_)
  clear hR12 R12
  try simp only [thenK, scopeK]
  refine hN11 _ ?_
  clear hN11 N11
  refine pwp_cond_true (by simp only [St.eval, upd_at, Nat.reduceEqDiff, if_true, if_false] <;> rfl) ?_
  refine pwp_skip ?_
  try simp only [blockK, thenK, scopeK]
  try simp only [thenK, scopeK]
  refine hN10 _ ?_
  clear hN10 N10
  refine pwp_then fun N13 hN13 => ?_
  refine pwp_then fun N14 hN14 => ?_
  refine pwp_reg fun R15 hR15 => ?_
  refine pops_mv (.inl rfl) rfl (by simp only [St.eval, upd_at, Nat.reduceEqDiff, if_true, if_false] <;> rfl) ?_
  refine pops_to rfl fun M hM => ?_
  simp only [pop, St.eval, constSlot, upd_at, Nat.reduceEqDiff, if_true, if_false, popBin, binK, intK, strK, eqK, Tryd.underlying3, isPtr, eq_self, true_and, and_true, Int.reduceBEq]
  refine hM _ _ ?_
  clear hM M
  refine pops_done (hR15 _ ?_)
  clear hR15 R15
  try simp only [thenK, scopeK]
  refine hN14 _ ?_
  clear hN14 N14
  refine pwp_cond_false (by simp only [St.eval, upd_at, Nat.reduceEqDiff, if_true, if_false] <;> rfl) ?_
  refine pwp_then fun N16 hN16 => ?_
  refine pwp_reg fun R17 hR17 => ?_
  refine pops_mv (.inl rfl) rfl (by simp only [St.eval, upd_at, Nat.reduceEqDiff, if_true, if_false] <;> rfl) ?_
  refine pops_to rfl fun M hM => ?_
  simp only [pop, St.eval, constSlot, upd_at, Nat.reduceEqDiff, if_true, if_false, popBin, binK, intK, strK, eqK, eq_self, true_and, and_true, Int.reduceLT, decide_false]
  refine hM _ _ ?_
  clear hM M
  refine pops_mv (.inl rfl) rfl (by simp only [St.eval, upd_at, Nat.reduceEqDiff, if_true, if_false] <;> rfl) ?_
  refine pops_mvg (.inl rfl) rfl rfl (by simp only [upd_at, Nat.reduceEqDiff, if_true, if_false]) (by simp only [St.eval, upd_at, Nat.reduceEqDiff, if_true, if_false] <;> rfl) ?_
  refine pops_do rfl rfl (by simp only [upd_at, Nat.reduceEqDiff, if_true, if_false]) fun M hM => ?_
  simp only [pop, St.eval, constSlot, upd_at, Nat.reduceEqDiff, if_true, if_false, popBin, binK, intK, strK, eqK, eq_self, true_and, and_true, gt_iff_lt, Int.reduceLT, decide_false]
  refine hM _ _ ?_
  clear hM M
  refine pops_to rfl fun M hM => ?_
  simp only [pop, St.eval, constSlot, upd_at, Nat.reduceEqDiff, if_true, if_false, popIf, true_implies, false_implies, Bool.true_eq_false, Bool.false_eq_true, reduceCtorEq, true_and, and_true]
  refine hM _ _ ?_
  clear hM M
  refine pops_done (hR17 _ ?_)
  clear hR17 R17
  try simp only [thenK, scopeK]
  refine hN16 _ ?_
  clear hN16 N16
  refine pwp_cond_false (by simp only [St.eval, upd_at, Nat.reduceEqDiff, if_true, if_false] <;> rfl) ?_
  refine pwp_skip ?_
  try simp only [thenK, scopeK]
  refine hN13 _ ?_
  clear hN13 N13
  refine pwp_then fun N18 hN18 => ?_
  refine pwp_reg fun R19 hR19 => ?_
  refine pops_mv (.inr rfl) rfl (by simp only [St.eval, constSlot] <;> rfl) ?_
  refine pops_done (hR19 _ ?_)
  clear hR19 R19
  try simp only [thenK, scopeK]
  refine hN18 _ ?_
  clear hN18 N18
  refine pwp_then fun N20 hN20 => ?_
  refine pwp_then fun N21 hN21 => ?_
  refine pwp_reg fun R22 hR22 => ?_
  refine pops_mv (.inl rfl) rfl (by simp only [St.eval, upd_at, Nat.reduceEqDiff, if_true, if_false] <;> rfl) ?_
  refine pops_done (hR22 _ ?_)
  clear hR22 R22
  try simp only [thenK, scopeK]
  refine hN21 _ ?_
  clear hN21 N21
  refine pwp_block ?_
  refine pwp_then fun N23 hN23 => ?_
  refine pwp_reg fun R24 hR24 => ?_
  refine pops_to rfl fun M hM => ?_
  simp only [pop, St.eval, constSlot, upd_at, Nat.reduceEqDiff, if_true, if_false, popBin, binK, intK, strK, eqK, Tryd.underlying3, isPtr, eq_self, true_and, and_true, Int.reduceBEq]
  refine hM _ _ ?_
  clear hM M
  refine pops_mv (.inr rfl) rfl (by simp only [St.eval, upd_at, Nat.reduceEqDiff, if_true, if_false] <;> rfl) ?_
  refine pops_done (hR24 _ ?_)
  clear hR24 R24
  try simp only [thenK, scopeK]
  refine hN23 _ ?_
  clear hN23 N23
  refine pwp_cond_true (by simp only [St.eval, upd_at, Nat.reduceEqDiff, if_true, if_false] <;> rfl) ?_
  refine pwp_reg fun R25 hR25 => ?_
  refine pops_mv (.inr rfl) rfl (by simp only [St.eval, constSlot] <;> rfl) ?_
  refine pops_done (hR25 _ ?_)
  clear hR25 R25
  try simp only [blockK, thenK, scopeK]
  try simp only [thenK, scopeK]
  refine hN20 _ ?_
  clear hN20 N20
  refine pwp_then fun N26 hN26 => ?_
  refine pwp_reg fun R27 hR27 => ?_
  refine pops_mv (.inl rfl) rfl (by simp only [St.eval, upd_at, Nat.reduceEqDiff, if_true, if_false] <;> rfl) ?_
  refine pops_to rfl fun M hM => ?_
  simp only [pop, St.eval, constSlot, upd_at, Nat.reduceEqDiff, if_true, if_false, popConvert, Tryd.underlying3, Tryd.underlying157, eq_self, true_and, and_true, str_list, str_size, str_app, str_cut, str_get]
  refine hM _ _ ?_
  clear hM M
  refine pops_to rfl fun M hM => ?_
  simp only [pop, St.eval, constSlot, upd_at, Nat.reduceEqDiff, if_true, if_false, popBin, binK, intK, strK, eqK, eq_self, true_and, and_true]
  refine ⟨by decide, hM _ _ ?_⟩
  clear hM M
  refine pops_to rfl fun M hM => ?_
  simp only [pop, St.eval, constSlot, upd_at, Nat.reduceEqDiff, if_true, if_false, popBin, binK, intK, strK, eqK, eq_self, true_and, and_true, max63]
  refine hM _ _ ?_
  clear hM M
  refine pops_mv (.inr rfl) rfl (by simp only [St.eval, upd_at, Nat.reduceEqDiff, if_true, if_false] <;> rfl) ?_
  refine pops_done (hR27 _ ?_)
  clear hR27 R27
  try simp only [thenK, scopeK]
  refine hN26 _ ?_
  clear hN26 N26
  refine pwp_then fun N28 hN28 => ?_
  refine pwp_reg fun R29 hR29 => ?_
  refine pops_mv (.inr rfl) rfl (by simp only [St.eval, constSlot] <;> rfl) ?_
  refine pops_done (hR29 _ ?_)
  clear hR29 R29
  try simp only [thenK, scopeK]
  refine hN28 _ ?_
  clear hN28 N28
  refine pwp_then fun N30 hN30 => ?_
  refine pwp_reg fun R31 hR31 => ?_
  refine pops_mv (.inr rfl) rfl (by simp only [St.eval, constSlot] <;> rfl) ?_
  refine pops_done (hR31 _ ?_)
  clear hR31 R31
  try simp only [thenK, scopeK]
  refine hN30 _ ?_
  clear hN30 N30
  refine pwp_then fun N32 hN32 => ?_
  refine pwp_then fun N33 hN33 => ?_
  refine pwp_reg fun R34 hR34 => ?_
  refine pops_mv (.inl rfl) rfl (by simp only [St.eval, upd_at, Nat.reduceEqDiff, if_true, if_false] <;> rfl) ?_
  refine pops_toBytes (hpOk.same hb (Same.refl _)) rfl Tryd.underlying9 Tryd.underlying129 Tryd.underlying5 (by simp only [St.eval, upd_at, Nat.reduceEqDiff, if_true, if_false] <;> rfl) (by omega) (fun hv35 sv35 => ?_)
  refine pops_to rfl fun M hM => ?_
  simp only [pop, St.eval, constSlot, upd_at, Nat.reduceEqDiff, if_true, if_false, popCall, List.toList_toArray, List.map_cons, List.map_nil, popBuiltin, popLen, lenOfSlot, List.length_map, Tryd.underlying129, eq_self, true_and, and_true, str_list, str_size, str_app, str_cut, str_get]
  refine hM _ _ ?_
  clear hM M
  refine pops_mv (.inl rfl) rfl (by simp only [St.eval, constSlot] <;> rfl) ?_
  refine pops_done (hR34 _ ?_)
  clear hR34 R34
  try simp only [thenK, scopeK]
  refine hN33 _ ?_
  clear hN33 N33
  refine pwp_block ?_
  refine pwp_loop (fun k σ => ∃ (i : Nat), (k = d.length - i) ∧ (i ≤ d.length) ∧ (decV (d.take i) ≤ 9223372036854775807) ∧ (Same h σ.hp) ∧ (σ.env 1 = .sv (.one (pint 10))) ∧ (σ.env 8 = .sv (.one (pbool false))) ∧ (σ.env 9 = .sv (.one (pstr d))) ∧ (σ.env 10 = .sv (.one (.val (.int .u64 1844674407370955162)))) ∧ (σ.env 11 = .sv (.one (.val (.int .u64 9223372036854775807)))) ∧ (σ.env 12 = .sv (.one (pbool false))) ∧ (σ.env 13 = .sv (.one (.val (.int .u64 (decV (d.take i) : Nat))))) ∧ (σ.env 99 = .sv (.one (.ro false 1 (d.map byteCell)))) ∧ (σ.env 100 = .sv (.one (pint (d.length : Nat)))) ∧ (σ.env 101 = .sv (.one (pint (i : Nat))))) _ ⟨_, .refl _ _, 0, rfl, ?_⟩ ?_
  · exact ⟨Nat.zero_le _, Nat.zero_le _, sv35, by simp only [upd_at, Nat.reduceEqDiff, if_true, if_false], by simp only [upd_at, Nat.reduceEqDiff, if_true, if_false], by simp only [upd_at, Nat.reduceEqDiff, if_true, if_false], by simp only [upd_at, Nat.reduceEqDiff, if_true, if_false], by simp only [upd_at, Nat.reduceEqDiff, if_true, if_false], by simp only [upd_at, Nat.reduceEqDiff, if_true, if_false], by simp only [upd_at, Nat.reduceEqDiff, if_true, if_false]; rfl, by simp only [upd_at, Nat.reduceEqDiff, if_true, if_false], by simp only [upd_at, Nat.reduceEqDiff, if_true, if_false], by simp only [upd_at, Nat.reduceEqDiff, if_true, if_false]; rfl⟩
  ·rintro k ⟨e, hp0⟩ ⟨i, hk0, hx0_0, hx0_1, sl0, e0_1, e0_8, e0_9, e0_10, e0_11, e0_12, e0_13, e0_99, e0_100, e0_101⟩
   simp only at sl0 e0_1 e0_8 e0_9 e0_10 e0_11 e0_12 e0_13 e0_99 e0_100 e0_101
   refine pwp_then fun N36 hN36 => ?_
   refine pwp_reg fun R37 hR37 => ?_
   refine pops_to rfl fun M hM => ?_
   simp only [pop, St.eval, constSlot, upd_at, Nat.reduceEqDiff, if_true, if_false, popBin, binK, intK, strK, eqK, eq_self, true_and, and_true, e0_1, e0_8, e0_9, e0_10, e0_11, e0_12, e0_13, e0_99, e0_100, e0_101]
   refine hM _ _ ?_
   clear hM M
   refine pops_done (hR37 _ ?_)
   clear hR37 R37
   try simp only [thenK, scopeK]
   refine hN36 _ ?_
   clear hN36 N36
   refine pwp_then fun N38 hN38 => ?_
   refine pwp_cond (by simp only [St.eval, upd_at, Nat.reduceEqDiff, if_true, if_false, e0_1, e0_8, e0_9, e0_10, e0_11, e0_12, e0_13, e0_99, e0_100, e0_101] <;> rfl) (fun c102 => ?_) (fun c102 => ?_)
   ·skip
    have hi : i < d.length := by have := of_decide_eq_true c102; omega
    have hx := getD_some hi
    have hdg := hd _ (List.mem_of_getElem? hx)
    obtain ⟨x, hxx, hx9⟩ := digit_val hdg
    have hdv := decV_take hx
    have hget : (d.map byteCell)[i]? = some (byteCell (d.getD i 0)) := by simp only [List.getElem?_map, hx, Option.map_some]
    have hw : IntKind.u8.wrap (((d.getD i 0).toNat : Int) - 48) = (x : Int) := by rw [wrap_u8 (by omega) (by omega)]; omega
    have hw2 : IntKind.u64.wrap (x : Int) = (x : Int) := wrap_u64 (by omega) (by omega)
    refine pwp_skip ?_
    try simp only [thenK, scopeK]
    refine hN38 _ ?_
    clear hN38 N38
    refine pwp_then fun N39 hN39 => ?_
    refine pwp_block ?_
    refine pwp_then fun N40 hN40 => ?_
    refine pwp_reg fun R41 hR41 => ?_
    refine pops_to rfl fun M hM => ?_
    simp only [pop, St.eval, constSlot, upd_at, Nat.reduceEqDiff, if_true, if_false, popIndexAddr, Tryd.underlying129, sz5, eq_self, true_and, and_true, str_list, str_size, str_app, str_cut, str_get, e0_1, e0_8, e0_9, e0_10, e0_11, e0_12, e0_13, e0_99, e0_100, e0_101, byteCell, hget, Int.toNat_natCast]
    refine ⟨Int.natCast_nonneg _, hM _ _ ?_⟩
    clear hM M
    refine pops_to rfl fun M hM => ?_
    simp only [pop, St.eval, constSlot, upd_at, Nat.reduceEqDiff, if_true, if_false, popLoad, loadK, isAggD, List.drop_zero, List.getElem?_toArray, List.getElem?_cons_zero, List.getElem?_cons_succ, Bool.false_eq_true, Tryd.underlying5, sz5, eq_self, true_and, and_true, e0_1, e0_8, e0_9, e0_10, e0_11, e0_12, e0_13, e0_99, e0_100, e0_101, byteCell]
    refine hM _ _ ?_
    clear hM M
    refine pops_mv (.inr rfl) rfl (by simp only [St.eval, upd_at, Nat.reduceEqDiff, if_true, if_false, e0_1, e0_8, e0_9, e0_10, e0_11, e0_12, e0_13, e0_99, e0_100, e0_101, byteCell] <;> rfl) ?_
    refine pops_done (hR41 _ ?_)
    clear hR41 R41
    try simp only [thenK, scopeK]
    refine hN40 _ ?_
    clear hN40 N40
    refine pwp_then fun N42 hN42 => ?_
    refine pwp_reg fun R43 hR43 => ?_
    refine pops_mv (.inr rfl) rfl (by simp only [St.eval, constSlot] <;> rfl) ?_
    refine pops_done (hR43 _ ?_)
    clear hR43 R43
    try simp only [thenK, scopeK]
    refine hN42 _ ?_
    clear hN42 N42
    refine pwp_then fun N44 hN44 => ?_
    refine pwp_block ?_
    refine pwp_then fun N45 hN45 => ?_
    refine pwp_reg fun R46 hR46 => ?_
    refine pops_mv (.inl rfl) rfl (by simp only [St.eval, upd_at, Nat.reduceEqDiff, if_true, if_false, e0_1, e0_8, e0_9, e0_10, e0_11, e0_12, e0_13, e0_99, e0_100, e0_101, byteCell] <;> rfl) ?_
    refine pops_to rfl fun M hM => ?_
    simp only [pop, St.eval, constSlot, upd_at, Nat.reduceEqDiff, if_true, if_false, popBin, binK, intK, strK, eqK, Tryd.underlying5, isPtr, eq_self, true_and, and_true, e0_1, e0_8, e0_9, e0_10, e0_11, e0_12, e0_13, e0_99, e0_100, e0_101, byteCell]
    refine hM _ _ ?_
    clear hM M
    refine pops_mv (.inl rfl) rfl (by simp only [St.eval, upd_at, Nat.reduceEqDiff, if_true, if_false, e0_1, e0_8, e0_9, e0_10, e0_11, e0_12, e0_13, e0_99, e0_100, e0_101, byteCell] <;> rfl) ?_
    apply pops_and0 2 109 111 [110] (by simp only [upd_at, Nat.reduceEqDiff, if_true, if_false, e0_1, e0_8, e0_9, e0_10, e0_11, e0_12, e0_13, e0_99, e0_100, e0_101, byteCell] <;> rfl)
    ·skip
     intro g109_0 J47 hJ47
     simp only [List.take_succ_cons, List.take_zero]
     simp only [anyAt_cons, anyAt_nil] at hJ47
     refine pops_mvg (.inl rfl) rfl rfl (by simp only [upd_at, Nat.reduceEqDiff, if_true, if_false, e0_1, e0_8, e0_9, e0_10, e0_11, e0_12, e0_13, e0_99, e0_100, e0_101, byteCell, g109_0]) (by simp only [St.eval, upd_at, Nat.reduceEqDiff, if_true, if_false, e0_1, e0_8, e0_9, e0_10, e0_11, e0_12, e0_13, e0_99, e0_100, e0_101, byteCell, g109_0] <;> rfl) ?_
     refine pops_to rfl fun M hM => ?_
     simp only [pop, St.eval, constSlot, upd_at, Nat.reduceEqDiff, if_true, if_false, popIf, true_implies, false_implies, Bool.true_eq_false, Bool.false_eq_true, reduceCtorEq, true_and, and_true, e0_1, e0_8, e0_9, e0_10, e0_11, e0_12, e0_13, e0_99, e0_100, e0_101, byteCell, g109_0]
     refine hM _ _ ?_
     clear hM M
     exact pops_done (hJ47 _ (wk_same (wk_any (Wk.refl _ _))))
    ·skip
     intro g109_0 J47 hJ47
     simp only [List.take_succ_cons, List.take_zero]
     simp only [anyAt_cons, anyAt_nil] at hJ47
     refine pops_off (b := false) rfl rfl (by simp only [upd_at, Nat.reduceEqDiff, if_true, if_false, e0_1, e0_8, e0_9, e0_10, e0_11, e0_12, e0_13, e0_99, e0_100, e0_101, byteCell, g109_0]) (by decide) ?_
     refine pops_to rfl fun M hM => ?_
     simp only [pop, St.eval, constSlot, upd_at, Nat.reduceEqDiff, if_true, if_false, popIf, true_implies, false_implies, Bool.true_eq_false, Bool.false_eq_true, reduceCtorEq, true_and, and_true, e0_1, e0_8, e0_9, e0_10, e0_11, e0_12, e0_13, e0_99, e0_100, e0_101, byteCell, g109_0]
     refine hM _ _ ?_
     clear hM M
     exact pops_done (hJ47 _ (wk_same (wk_any (Wk.refl _ _))))
    simp only [List.drop_succ_cons, List.drop_zero, anyAt_cons, anyAt_nil]
    refine pops_mv (.inr rfl) rfl (by simp only [St.eval, upd_at, Nat.reduceEqDiff, if_true, if_false, e0_1, e0_8, e0_9, e0_10, e0_11, e0_12, e0_13, e0_99, e0_100, e0_101, byteCell] <;> rfl) ?_
    refine pops_done (hR46 _ ?_)
    clear hR46 R46
    try simp only [thenK, scopeK]
    refine hN45 _ ?_
    clear hN45 N45
    refine pwp_cond (by simp only [St.eval, upd_at, Nat.reduceEqDiff, if_true, if_false, e0_1, e0_8, e0_9, e0_10, e0_11, e0_12, e0_13, e0_99, e0_100, e0_101, byteCell] <;> rfl) (fun c106 => ?_) (fun c106 => ?_)
    ·skip
     simp at c106
    ·skip
     refine pwp_then fun N48 hN48 => ?_
     refine pwp_reg fun R49 hR49 => ?_
     refine pops_mv (.inl rfl) rfl (by simp only [St.eval, upd_at, Nat.reduceEqDiff, if_true, if_false, e0_1, e0_8, e0_9, e0_10, e0_11, e0_12, e0_13, e0_99, e0_100, e0_101, byteCell] <;> rfl) ?_
     refine pops_to rfl fun M hM => ?_
     simp only [pop, St.eval, constSlot, upd_at, Nat.reduceEqDiff, if_true, if_false, popBin, binK, intK, strK, eqK, eq_self, true_and, and_true, e0_1, e0_8, e0_9, e0_10, e0_11, e0_12, e0_13, e0_99, e0_100, e0_101, byteCell]
     refine hM _ _ ?_
     clear hM M
     refine pops_mv (.inl rfl) rfl (by simp only [St.eval, upd_at, Nat.reduceEqDiff, if_true, if_false, e0_1, e0_8, e0_9, e0_10, e0_11, e0_12, e0_13, e0_99, e0_100, e0_101, byteCell] <;> rfl) ?_
     apply pops_and0 3 115 118 [116, 117] (by simp only [upd_at, Nat.reduceEqDiff, if_true, if_false, e0_1, e0_8, e0_9, e0_10, e0_11, e0_12, e0_13, e0_99, e0_100, e0_101, byteCell] <;> rfl)
     ·skip
      intro g115_0 J50 hJ50
      simp only [List.take_succ_cons, List.take_zero]
      simp only [anyAt_cons, anyAt_nil] at hJ50
      refine pops_mvg (.inl rfl) rfl rfl (by simp only [upd_at, Nat.reduceEqDiff, if_true, if_false, e0_1, e0_8, e0_9, e0_10, e0_11, e0_12, e0_13, e0_99, e0_100, e0_101, byteCell, g115_0]) (by simp only [St.eval, upd_at, Nat.reduceEqDiff, if_true, if_false, e0_1, e0_8, e0_9, e0_10, e0_11, e0_12, e0_13, e0_99, e0_100, e0_101, byteCell, g115_0] <;> rfl) ?_
      refine pops_do rfl rfl (by simp only [upd_at, Nat.reduceEqDiff, if_true, if_false, e0_1, e0_8, e0_9, e0_10, e0_11, e0_12, e0_13, e0_99, e0_100, e0_101, byteCell, g115_0]) fun M hM => ?_
      simp only [pop, St.eval, constSlot, upd_at, Nat.reduceEqDiff, if_true, if_false, popBin, binK, intK, strK, eqK, eq_self, true_and, and_true, e0_1, e0_8, e0_9, e0_10, e0_11, e0_12, e0_13, e0_99, e0_100, e0_101, byteCell, g115_0]
      refine hM _ _ ?_
      clear hM M
      refine pops_to rfl fun M hM => ?_
      simp only [pop, St.eval, constSlot, upd_at, Nat.reduceEqDiff, if_true, if_false, popIf, true_implies, false_implies, Bool.true_eq_false, Bool.false_eq_true, reduceCtorEq, true_and, and_true, e0_1, e0_8, e0_9, e0_10, e0_11, e0_12, e0_13, e0_99, e0_100, e0_101, byteCell, g115_0]
      refine hM _ _ ?_
      clear hM M
      exact pops_done (hJ50 _ (wk_same (wk_any ((wk_any (Wk.refl _ _))))))
     ·skip
      intro g115_0 J50 hJ50
      simp only [List.take_succ_cons, List.take_zero]
      simp only [anyAt_cons, anyAt_nil] at hJ50
      refine pops_off (b := false) rfl rfl (by simp only [upd_at, Nat.reduceEqDiff, if_true, if_false, e0_1, e0_8, e0_9, e0_10, e0_11, e0_12, e0_13, e0_99, e0_100, e0_101, byteCell, g115_0]) (by decide) ?_
      refine pops_off (b := false) rfl rfl (by simp only [upd_at, Nat.reduceEqDiff, if_true, if_false, e0_1, e0_8, e0_9, e0_10, e0_11, e0_12, e0_13, e0_99, e0_100, e0_101, byteCell, g115_0]) (by decide) ?_
      refine pops_to rfl fun M hM => ?_
      simp only [pop, St.eval, constSlot, upd_at, Nat.reduceEqDiff, if_true, if_false, popIf, true_implies, false_implies, Bool.true_eq_false, Bool.false_eq_true, reduceCtorEq, true_and, and_true, e0_1, e0_8, e0_9, e0_10, e0_11, e0_12, e0_13, e0_99, e0_100, e0_101, byteCell, g115_0]
      refine hM _ _ ?_
      clear hM M
      exact pops_done (hJ50 _ (wk_same (wk_any ((wk_any (Wk.refl _ _))))))
     simp only [List.drop_succ_cons, List.drop_zero, anyAt_cons, anyAt_nil]
     refine pops_mv (.inr rfl) rfl (by simp only [St.eval, upd_at, Nat.reduceEqDiff, if_true, if_false, e0_1, e0_8, e0_9, e0_10, e0_11, e0_12, e0_13, e0_99, e0_100, e0_101, byteCell] <;> rfl) ?_
     refine pops_done (hR49 _ ?_)
     clear hR49 R49
     try simp only [thenK, scopeK]
     refine hN48 _ ?_
     clear hN48 N48
     refine pwp_cond (by simp only [St.eval, upd_at, Nat.reduceEqDiff, if_true, if_false, e0_1, e0_8, e0_9, e0_10, e0_11, e0_12, e0_13, e0_99, e0_100, e0_101, byteCell] <;> rfl) (fun c112 => ?_) (fun c112 => ?_)
     ·skip
      refine pwp_reg fun R51 hR51 => ?_
      refine pops_mv (.inl rfl) rfl (by simp only [St.eval, upd_at, Nat.reduceEqDiff, if_true, if_false, e0_1, e0_8, e0_9, e0_10, e0_11, e0_12, e0_13, e0_99, e0_100, e0_101, byteCell] <;> rfl) ?_
      refine pops_to rfl fun M hM => ?_
      simp only [pop, St.eval, constSlot, upd_at, Nat.reduceEqDiff, if_true, if_false, popBin, binK, intK, strK, eqK, eq_self, true_and, and_true, e0_1, e0_8, e0_9, e0_10, e0_11, e0_12, e0_13, e0_99, e0_100, e0_101, byteCell, hw]
      refine hM _ _ ?_
      clear hM M
      refine pops_mv (.inr rfl) rfl (by simp only [St.eval, upd_at, Nat.reduceEqDiff, if_true, if_false, e0_1, e0_8, e0_9, e0_10, e0_11, e0_12, e0_13, e0_99, e0_100, e0_101, byteCell] <;> rfl) ?_
      refine pops_done (hR51 _ ?_)
      clear hR51 R51
      try simp only [blockK, thenK, scopeK]
      try simp only [thenK, scopeK]
      refine hN44 _ ?_
      clear hN44 N44
      refine pwp_then fun N52 hN52 => ?_
      refine pwp_then fun N53 hN53 => ?_
      refine pwp_reg fun R54 hR54 => ?_
      refine pops_mv (.inl rfl) rfl (by simp only [St.eval, upd_at, Nat.reduceEqDiff, if_true, if_false, e0_1, e0_8, e0_9, e0_10, e0_11, e0_12, e0_13, e0_99, e0_100, e0_101, byteCell] <;> rfl) ?_
      refine pops_mv (.inl rfl) rfl (by simp only [St.eval, upd_at, Nat.reduceEqDiff, if_true, if_false, e0_1, e0_8, e0_9, e0_10, e0_11, e0_12, e0_13, e0_99, e0_100, e0_101, byteCell] <;> rfl) ?_
      refine pops_to rfl fun M hM => ?_
      simp only [pop, St.eval, constSlot, upd_at, Nat.reduceEqDiff, if_true, if_false, popConvert, Tryd.underlying3, Tryd.underlying5, eq_self, true_and, and_true, str_list, str_size, str_app, str_cut, str_get, e0_1, e0_8, e0_9, e0_10, e0_11, e0_12, e0_13, e0_99, e0_100, e0_101, byteCell]
      refine hM _ _ ?_
      clear hM M
      refine pops_to rfl fun M hM => ?_
      simp only [pop, St.eval, constSlot, upd_at, Nat.reduceEqDiff, if_true, if_false, popBin, binK, intK, strK, eqK, eq_self, true_and, and_true, e0_1, e0_8, e0_9, e0_10, e0_11, e0_12, e0_13, e0_99, e0_100, e0_101, byteCell]
      refine hM _ _ ?_
      clear hM M
      refine pops_done (hR54 _ ?_)
      clear hR54 R54
      try simp only [thenK, scopeK]
      refine hN53 _ ?_
      clear hN53 N53
      refine pwp_cond (by simp only [St.eval, upd_at, Nat.reduceEqDiff, if_true, if_false, e0_1, e0_8, e0_9, e0_10, e0_11, e0_12, e0_13, e0_99, e0_100, e0_101, byteCell] <;> rfl) (fun c137 => ?_) (fun c137 => ?_)
      ·skip
       exfalso
       have h7 := of_decide_eq_true c137
       rw [show IntKind.u8.wrap 10 = 10 by decide] at h7
       omega
      ·skip
       refine pwp_skip ?_
       try simp only [thenK, scopeK]
       refine hN52 _ ?_
       clear hN52 N52
       refine pwp_then fun N55 hN55 => ?_
       refine pwp_then fun N56 hN56 => ?_
       refine pwp_reg fun R57 hR57 => ?_
       refine pops_mv (.inl rfl) rfl (by simp only [St.eval, upd_at, Nat.reduceEqDiff, if_true, if_false, e0_1, e0_8, e0_9, e0_10, e0_11, e0_12, e0_13, e0_99, e0_100, e0_101, byteCell] <;> rfl) ?_
       refine pops_mv (.inl rfl) rfl (by simp only [St.eval, upd_at, Nat.reduceEqDiff, if_true, if_false, e0_1, e0_8, e0_9, e0_10, e0_11, e0_12, e0_13, e0_99, e0_100, e0_101, byteCell] <;> rfl) ?_
       refine pops_to rfl fun M hM => ?_
       simp only [pop, St.eval, constSlot, upd_at, Nat.reduceEqDiff, if_true, if_false, popBin, binK, intK, strK, eqK, eq_self, true_and, and_true, e0_1, e0_8, e0_9, e0_10, e0_11, e0_12, e0_13, e0_99, e0_100, e0_101, byteCell]
       refine hM _ _ ?_
       clear hM M
       refine pops_done (hR57 _ ?_)
       clear hR57 R57
       try simp only [thenK, scopeK]
       refine hN56 _ ?_
       clear hN56 N56
       refine pwp_cond (by simp only [St.eval, upd_at, Nat.reduceEqDiff, if_true, if_false, e0_1, e0_8, e0_9, e0_10, e0_11, e0_12, e0_13, e0_99, e0_100, e0_101, byteCell] <;> rfl) (fun c141 => ?_) (fun c141 => ?_)
       ·skip
        obtain ⟨hpb, hpv⟩ := pu_big (d := d) (i + 1) (by rw [hdv]; have := of_decide_eq_true c141; omega)
        refine pwp_then fun N58 hN58 => ?_
        refine pwp_reg fun R59 hR59 => ?_
        refine pops_mv (.inl rfl) rfl (by simp only [St.eval, upd_at, Nat.reduceEqDiff, if_true, if_false, e0_1, e0_8, e0_9, e0_10, e0_11, e0_12, e0_13, e0_99, e0_100, e0_101, byteCell] <;> rfl) ?_
        refine pops_to rfl fun M hM => ?_
        simp only [pop, St.eval, constSlot, upd_at, Nat.reduceEqDiff, if_true, if_false, ifcOf, notIface, Tryd.underlying156, eq_self, true_and, and_true, str_list, str_size, str_app, str_cut, str_get, e0_1, e0_8, e0_9, e0_10, e0_11, e0_12, e0_13, e0_99, e0_100, e0_101, byteCell]
        refine hM _ _ ?_
        clear hM M
        refine pops_mv (.inr rfl) rfl (by simp only [St.eval, upd_at, Nat.reduceEqDiff, if_true, if_false, e0_1, e0_8, e0_9, e0_10, e0_11, e0_12, e0_13, e0_99, e0_100, e0_101, byteCell] <;> rfl) ?_
        refine pops_mv (.inr rfl) rfl (by simp only [St.eval, upd_at, Nat.reduceEqDiff, if_true, if_false, e0_1, e0_8, e0_9, e0_10, e0_11, e0_12, e0_13, e0_99, e0_100, e0_101, byteCell] <;> rfl) ?_
        refine pops_done (hR59 _ ?_)
        clear hR59 R59
        try simp only [thenK, scopeK]
        refine hN58 _ ?_
        clear hN58 N58
        refine pwp_ret ?_
        simp only [thenK, blockK, scopeK, bodyK]
        clear hN55 N55 hN39 N39 hN32 N32
        refine ⟨_, rfl, endFun sl0 ?_⟩
        try simp only [upd_at, Nat.reduceEqDiff, if_true, if_false, e0_1, e0_8, e0_9, e0_10, e0_11, e0_12, e0_13, e0_99, e0_100, e0_101, byteCell]
        all_goals
         first
           | (rw [hpv, puE, hpb, htk]; rfl)
           | (rw [hpv, puE, hpb]; rfl)
       ·skip
        have h141 := of_decide_eq_false c141
        have hw5 : IntKind.u64.wrap ((decV (d.take i) : Int) * IntKind.u64.wrap 10) = ((decV (d.take i) * 10 : Nat) : Int) := by rw [show IntKind.u64.wrap 10 = 10 by decide, wrap_u64 (by omega) (by omega)]; omega
        have hw6 : (decV (d.take (i + 1)) < 18446744073709551616 ∧ IntKind.u64.wrap (((decV (d.take i) * 10 : Nat) : Int) + (x : Int)) = ((decV (d.take (i + 1)) : Nat) : Int)) ∨ (18446744073709551616 ≤ decV (d.take (i + 1)) ∧ IntKind.u64.wrap (((decV (d.take i) * 10 : Nat) : Int) + (x : Int)) = ((decV (d.take (i + 1)) : Nat) : Int) - 18446744073709551616) := by
          rcases Nat.lt_or_ge (decV (d.take (i + 1))) 18446744073709551616 with h6 | h6
          · exact .inl ⟨h6, by rw [wrap_u64 (by omega) (by omega)]; omega⟩
          · exact .inr ⟨h6, by rw [wrap_u64' (by omega) (by omega)]; omega⟩
        refine pwp_skip ?_
        try simp only [thenK, scopeK]
        refine hN55 _ ?_
        clear hN55 N55
        refine pwp_then fun N60 hN60 => ?_
        refine pwp_reg fun R61 hR61 => ?_
        refine pops_mv (.inl rfl) rfl (by simp only [St.eval, upd_at, Nat.reduceEqDiff, if_true, if_false, e0_1, e0_8, e0_9, e0_10, e0_11, e0_12, e0_13, e0_99, e0_100, e0_101, byteCell] <;> rfl) ?_
        refine pops_mv (.inl rfl) rfl (by simp only [St.eval, upd_at, Nat.reduceEqDiff, if_true, if_false, e0_1, e0_8, e0_9, e0_10, e0_11, e0_12, e0_13, e0_99, e0_100, e0_101, byteCell] <;> rfl) ?_
        refine pops_to rfl fun M hM => ?_
        simp only [pop, St.eval, constSlot, upd_at, Nat.reduceEqDiff, if_true, if_false, popConvert, Tryd.underlying3, Tryd.underlying73, eq_self, true_and, and_true, str_list, str_size, str_app, str_cut, str_get, e0_1, e0_8, e0_9, e0_10, e0_11, e0_12, e0_13, e0_99, e0_100, e0_101, byteCell]
        refine hM _ _ ?_
        clear hM M
        refine pops_to rfl fun M hM => ?_
        simp only [pop, St.eval, constSlot, upd_at, Nat.reduceEqDiff, if_true, if_false, popBin, binK, intK, strK, eqK, eq_self, true_and, and_true, e0_1, e0_8, e0_9, e0_10, e0_11, e0_12, e0_13, e0_99, e0_100, e0_101, byteCell, hw5]
        refine hM _ _ ?_
        clear hM M
        refine pops_mv (.inr rfl) rfl (by simp only [St.eval, upd_at, Nat.reduceEqDiff, if_true, if_false, e0_1, e0_8, e0_9, e0_10, e0_11, e0_12, e0_13, e0_99, e0_100, e0_101, byteCell] <;> rfl) ?_
        refine pops_done (hR61 _ ?_)
        clear hR61 R61
        try simp only [thenK, scopeK]
        refine hN60 _ ?_
        clear hN60 N60
        refine pwp_then fun N62 hN62 => ?_
        refine pwp_reg fun R63 hR63 => ?_
        refine pops_mv (.inl rfl) rfl (by simp only [St.eval, upd_at, Nat.reduceEqDiff, if_true, if_false, e0_1, e0_8, e0_9, e0_10, e0_11, e0_12, e0_13, e0_99, e0_100, e0_101, byteCell] <;> rfl) ?_
        refine pops_mv (.inl rfl) rfl (by simp only [St.eval, upd_at, Nat.reduceEqDiff, if_true, if_false, e0_1, e0_8, e0_9, e0_10, e0_11, e0_12, e0_13, e0_99, e0_100, e0_101, byteCell] <;> rfl) ?_
        refine pops_to rfl fun M hM => ?_
        simp only [pop, St.eval, constSlot, upd_at, Nat.reduceEqDiff, if_true, if_false, popConvert, Tryd.underlying5, Tryd.underlying73, eq_self, true_and, and_true, str_list, str_size, str_app, str_cut, str_get, e0_1, e0_8, e0_9, e0_10, e0_11, e0_12, e0_13, e0_99, e0_100, e0_101, byteCell, hw2]
        refine hM _ _ ?_
        clear hM M
        refine pops_to rfl fun M hM => ?_
        simp only [pop, St.eval, constSlot, upd_at, Nat.reduceEqDiff, if_true, if_false, popBin, binK, intK, strK, eqK, eq_self, true_and, and_true, e0_1, e0_8, e0_9, e0_10, e0_11, e0_12, e0_13, e0_99, e0_100, e0_101, byteCell]
        refine hM _ _ ?_
        clear hM M
        refine pops_mv (.inr rfl) rfl (by simp only [St.eval, upd_at, Nat.reduceEqDiff, if_true, if_false, e0_1, e0_8, e0_9, e0_10, e0_11, e0_12, e0_13, e0_99, e0_100, e0_101, byteCell] <;> rfl) ?_
        refine pops_done (hR63 _ ?_)
        clear hR63 R63
        try simp only [thenK, scopeK]
        refine hN62 _ ?_
        clear hN62 N62
        refine pwp_then fun N64 hN64 => ?_
        refine pwp_then fun N65 hN65 => ?_
        refine pwp_reg fun R66 hR66 => ?_
        refine pops_mv (.inl rfl) rfl (by simp only [St.eval, upd_at, Nat.reduceEqDiff, if_true, if_false, e0_1, e0_8, e0_9, e0_10, e0_11, e0_12, e0_13, e0_99, e0_100, e0_101, byteCell] <;> rfl) ?_
        refine pops_mv (.inl rfl) rfl (by simp only [St.eval, upd_at, Nat.reduceEqDiff, if_true, if_false, e0_1, e0_8, e0_9, e0_10, e0_11, e0_12, e0_13, e0_99, e0_100, e0_101, byteCell] <;> rfl) ?_
        refine pops_to rfl fun M hM => ?_
        simp only [pop, St.eval, constSlot, upd_at, Nat.reduceEqDiff, if_true, if_false, popBin, binK, intK, strK, eqK, eq_self, true_and, and_true, e0_1, e0_8, e0_9, e0_10, e0_11, e0_12, e0_13, e0_99, e0_100, e0_101, byteCell]
        refine hM _ _ ?_
        clear hM M
        refine pops_mv (.inl rfl) rfl (by simp only [St.eval, upd_at, Nat.reduceEqDiff, if_true, if_false, e0_1, e0_8, e0_9, e0_10, e0_11, e0_12, e0_13, e0_99, e0_100, e0_101, byteCell] <;> rfl) ?_
        apply pops_or0 4 155 159 [156, 157, 158] (by simp only [upd_at, Nat.reduceEqDiff, if_true, if_false, e0_1, e0_8, e0_9, e0_10, e0_11, e0_12, e0_13, e0_99, e0_100, e0_101, byteCell] <;> rfl)
        ·skip
         intro g155_0 J67 hJ67
         simp only [List.take_succ_cons, List.take_zero]
         simp only [anyAt_cons, anyAt_nil] at hJ67
         refine pops_mvg (.inl rfl) rfl rfl (by simp only [upd_at, Nat.reduceEqDiff, if_true, if_false, e0_1, e0_8, e0_9, e0_10, e0_11, e0_12, e0_13, e0_99, e0_100, e0_101, byteCell, g155_0]) (by simp only [St.eval, upd_at, Nat.reduceEqDiff, if_true, if_false, e0_1, e0_8, e0_9, e0_10, e0_11, e0_12, e0_13, e0_99, e0_100, e0_101, byteCell, g155_0] <;> rfl) ?_
         refine pops_mvg (.inl rfl) rfl rfl (by simp only [upd_at, Nat.reduceEqDiff, if_true, if_false, e0_1, e0_8, e0_9, e0_10, e0_11, e0_12, e0_13, e0_99, e0_100, e0_101, byteCell, g155_0]) (by simp only [St.eval, upd_at, Nat.reduceEqDiff, if_true, if_false, e0_1, e0_8, e0_9, e0_10, e0_11, e0_12, e0_13, e0_99, e0_100, e0_101, byteCell, g155_0] <;> rfl) ?_
         refine pops_do rfl rfl (by simp only [upd_at, Nat.reduceEqDiff, if_true, if_false, e0_1, e0_8, e0_9, e0_10, e0_11, e0_12, e0_13, e0_99, e0_100, e0_101, byteCell, g155_0]) fun M hM => ?_
         simp only [pop, St.eval, constSlot, upd_at, Nat.reduceEqDiff, if_true, if_false, popBin, binK, intK, strK, eqK, eq_self, true_and, and_true, e0_1, e0_8, e0_9, e0_10, e0_11, e0_12, e0_13, e0_99, e0_100, e0_101, byteCell, g155_0]
         refine hM _ _ ?_
         clear hM M
         refine pops_to rfl fun M hM => ?_
         simp only [pop, St.eval, constSlot, upd_at, Nat.reduceEqDiff, if_true, if_false, popIf, true_implies, false_implies, Bool.true_eq_false, Bool.false_eq_true, reduceCtorEq, true_and, and_true, e0_1, e0_8, e0_9, e0_10, e0_11, e0_12, e0_13, e0_99, e0_100, e0_101, byteCell, g155_0]
         refine hM _ _ ?_
         clear hM M
         exact pops_done (hJ67 _ (wk_same (wk_any ((wk_any ((wk_any (Wk.refl _ _))))))))
        ·skip
         intro g155_0 J67 hJ67
         simp only [List.take_succ_cons, List.take_zero]
         simp only [anyAt_cons, anyAt_nil] at hJ67
         refine pops_off (b := true) rfl rfl (by simp only [upd_at, Nat.reduceEqDiff, if_true, if_false, e0_1, e0_8, e0_9, e0_10, e0_11, e0_12, e0_13, e0_99, e0_100, e0_101, byteCell, g155_0]) (by decide) ?_
         refine pops_off (b := true) rfl rfl (by simp only [upd_at, Nat.reduceEqDiff, if_true, if_false, e0_1, e0_8, e0_9, e0_10, e0_11, e0_12, e0_13, e0_99, e0_100, e0_101, byteCell, g155_0]) (by decide) ?_
         refine pops_off (b := true) rfl rfl (by simp only [upd_at, Nat.reduceEqDiff, if_true, if_false, e0_1, e0_8, e0_9, e0_10, e0_11, e0_12, e0_13, e0_99, e0_100, e0_101, byteCell, g155_0]) (by decide) ?_
         refine pops_to rfl fun M hM => ?_
         simp only [pop, St.eval, constSlot, upd_at, Nat.reduceEqDiff, if_true, if_false, popIf, true_implies, false_implies, Bool.true_eq_false, Bool.false_eq_true, reduceCtorEq, true_and, and_true, e0_1, e0_8, e0_9, e0_10, e0_11, e0_12, e0_13, e0_99, e0_100, e0_101, byteCell, g155_0]
         refine hM _ _ ?_
         clear hM M
         exact pops_done (hJ67 _ (wk_same (wk_any ((wk_any ((wk_any (Wk.refl _ _))))))))
        simp only [List.drop_succ_cons, List.drop_zero, anyAt_cons, anyAt_nil]
        refine pops_done (hR66 _ ?_)
        clear hR66 R66
        try simp only [thenK, scopeK]
        refine hN65 _ ?_
        clear hN65 N65
        refine pwp_cond (by simp only [St.eval, upd_at, Nat.reduceEqDiff, if_true, if_false, e0_1, e0_8, e0_9, e0_10, e0_11, e0_12, e0_13, e0_99, e0_100, e0_101, byteCell] <;> rfl) (fun c159 => ?_) (fun c159 => ?_)
        ·skip
         obtain ⟨hpb, hpv⟩ := pu_big (d := d) (i + 1) (by simp only [Bool.or_eq_true, decide_eq_true_eq] at c159; rcases hw6 with ⟨h6, h7⟩ | ⟨h6, h7⟩ <;> omega)
         refine pwp_then fun N68 hN68 => ?_
         refine pwp_reg fun R69 hR69 => ?_
         refine pops_mv (.inl rfl) rfl (by simp only [St.eval, upd_at, Nat.reduceEqDiff, if_true, if_false, e0_1, e0_8, e0_9, e0_10, e0_11, e0_12, e0_13, e0_99, e0_100, e0_101, byteCell] <;> rfl) ?_
         refine pops_to rfl fun M hM => ?_
         simp only [pop, St.eval, constSlot, upd_at, Nat.reduceEqDiff, if_true, if_false, ifcOf, notIface, Tryd.underlying156, eq_self, true_and, and_true, str_list, str_size, str_app, str_cut, str_get, e0_1, e0_8, e0_9, e0_10, e0_11, e0_12, e0_13, e0_99, e0_100, e0_101, byteCell]
         refine hM _ _ ?_
         clear hM M
         refine pops_mv (.inr rfl) rfl (by simp only [St.eval, upd_at, Nat.reduceEqDiff, if_true, if_false, e0_1, e0_8, e0_9, e0_10, e0_11, e0_12, e0_13, e0_99, e0_100, e0_101, byteCell] <;> rfl) ?_
         refine pops_mv (.inr rfl) rfl (by simp only [St.eval, upd_at, Nat.reduceEqDiff, if_true, if_false, e0_1, e0_8, e0_9, e0_10, e0_11, e0_12, e0_13, e0_99, e0_100, e0_101, byteCell] <;> rfl) ?_
         refine pops_done (hR69 _ ?_)
         clear hR69 R69
         try simp only [thenK, scopeK]
         refine hN68 _ ?_
         clear hN68 N68
         refine pwp_ret ?_
         simp only [thenK, blockK, scopeK, bodyK]
         clear hN64 N64 hN39 N39 hN32 N32
         refine ⟨_, rfl, endFun sl0 ?_⟩
         try simp only [upd_at, Nat.reduceEqDiff, if_true, if_false, e0_1, e0_8, e0_9, e0_10, e0_11, e0_12, e0_13, e0_99, e0_100, e0_101, byteCell]
         all_goals
          first
            | (rw [hpv, puE, hpb, htk]; rfl)
            | (rw [hpv, puE, hpb]; rfl)
        ·skip
         have h159 : decV (d.take (i + 1)) ≤ 9223372036854775807 := by simp only [Bool.or_eq_false_iff, decide_eq_false_iff_not] at c159; rcases hw6 with ⟨h6, h7⟩ | ⟨h6, h7⟩ <;> omega
         have hW : IntKind.u64.wrap (((decV (d.take i) * 10 : Nat) : Int) + (x : Int)) = ((decV (d.take (i + 1)) : Nat) : Int) := by
           rcases hw6 with ⟨h6, h7⟩ | ⟨h6, h7⟩
           · exact h7
           · omega
         refine pwp_skip ?_
         try simp only [thenK, scopeK]
         refine hN64 _ ?_
         clear hN64 N64
         refine pwp_reg fun R70 hR70 => ?_
         refine pops_mv (.inl rfl) rfl (by simp only [St.eval, upd_at, Nat.reduceEqDiff, if_true, if_false, e0_1, e0_8, e0_9, e0_10, e0_11, e0_12, e0_13, e0_99, e0_100, e0_101, byteCell] <;> rfl) ?_
         refine pops_mv (.inr rfl) rfl (by simp only [St.eval, upd_at, Nat.reduceEqDiff, if_true, if_false, e0_1, e0_8, e0_9, e0_10, e0_11, e0_12, e0_13, e0_99, e0_100, e0_101, byteCell] <;> rfl) ?_
         refine pops_done (hR70 _ ?_)
         clear hR70 R70
         try simp only [blockK, thenK, scopeK]
         try simp only [thenK, scopeK]
         refine hN39 _ ?_
         clear hN39 N39
         refine pwp_reg fun R71 hR71 => ?_
         refine pops_to rfl fun M hM => ?_
         simp only [pop, St.eval, constSlot, upd_at, Nat.reduceEqDiff, if_true, if_false, popBin, binK, intK, strK, eqK, eq_self, true_and, and_true, e0_1, e0_8, e0_9, e0_10, e0_11, e0_12, e0_13, e0_99, e0_100, e0_101, byteCell]
         refine hM _ _ ?_
         clear hM M
         refine pops_mv (.inl rfl) rfl (by simp only [St.eval, upd_at, Nat.reduceEqDiff, if_true, if_false, e0_1, e0_8, e0_9, e0_10, e0_11, e0_12, e0_13, e0_99, e0_100, e0_101, byteCell] <;> rfl) ?_
         refine pops_done (hR71 _ ?_)
         clear hR71 R71
         try simp only [thenK, scopeK]
         exact ⟨_, by omega, _, .refl _ _, i + 1, rfl, by omega, h159, sl0, by simp only [upd_at, Nat.reduceEqDiff, if_true, if_false, e0_1, e0_8, e0_9, e0_10, e0_11, e0_12, e0_13, e0_99, e0_100, e0_101, byteCell], by simp only [upd_at, Nat.reduceEqDiff, if_true, if_false, e0_1, e0_8, e0_9, e0_10, e0_11, e0_12, e0_13, e0_99, e0_100, e0_101, byteCell], by simp only [upd_at, Nat.reduceEqDiff, if_true, if_false, e0_1, e0_8, e0_9, e0_10, e0_11, e0_12, e0_13, e0_99, e0_100, e0_101, byteCell], by simp only [upd_at, Nat.reduceEqDiff, if_true, if_false, e0_1, e0_8, e0_9, e0_10, e0_11, e0_12, e0_13, e0_99, e0_100, e0_101, byteCell], by simp only [upd_at, Nat.reduceEqDiff, if_true, if_false, e0_1, e0_8, e0_9, e0_10, e0_11, e0_12, e0_13, e0_99, e0_100, e0_101, byteCell], by simp only [upd_at, Nat.reduceEqDiff, if_true, if_false, e0_1, e0_8, e0_9, e0_10, e0_11, e0_12, e0_13, e0_99, e0_100, e0_101, byteCell], by simp only [upd_at, Nat.reduceEqDiff, if_true, if_false, hW], by simp only [upd_at, Nat.reduceEqDiff, if_true, if_false, e0_1, e0_8, e0_9, e0_10, e0_11, e0_12, e0_13, e0_99, e0_100, e0_101, byteCell], by simp only [upd_at, Nat.reduceEqDiff, if_true, if_false, e0_1, e0_8, e0_9, e0_10, e0_11, e0_12, e0_13, e0_99, e0_100, e0_101, byteCell], by simp only [upd_at, Nat.reduceEqDiff, if_true, if_false, e0_101]; rw [wrap_succ (by omega)]⟩
     ·skip
      exfalso
      simp only [Bool.and_eq_false_iff, decide_eq_false_iff_not] at c112
      omega
   ·skip
    have hi : ¬ i < d.length := by have := of_decide_eq_false c102; omega
    have htk : d.take i = d := List.take_of_length_le (by omega)
    rw [htk] at hx0_1
    obtain ⟨hpb, hpv⟩ := pu_small hx0_1
    refine pwp_exit ?_
    try simp only [thenK, blockK, scopeK, if_true, Nat.reduceEqDiff, if_false]
    clear hN38 N38
    try simp only [blockK, scopeK, if_true, Nat.reduceEqDiff, if_false, thenK]
    try simp only [thenK, scopeK]
    refine hN32 _ ?_
    clear hN32 N32
    refine pwp_then fun N72 hN72 => ?_
    refine pwp_then fun N73 hN73 => ?_
    refine pwp_reg fun R74 hR74 => ?_
    refine pops_mv (.inl rfl) rfl (by simp only [St.eval, upd_at, Nat.reduceEqDiff, if_true, if_false, e0_1, e0_8, e0_9, e0_10, e0_11, e0_12, e0_13, e0_99, e0_100, e0_101] <;> rfl) ?_
    refine pops_mv (.inl rfl) rfl (by simp only [St.eval, upd_at, Nat.reduceEqDiff, if_true, if_false, e0_1, e0_8, e0_9, e0_10, e0_11, e0_12, e0_13, e0_99, e0_100, e0_101] <;> rfl) ?_
    refine pops_off (b := false) rfl rfl (by simp only [upd_at, Nat.reduceEqDiff, if_true, if_false, e0_1, e0_8, e0_9, e0_10, e0_11, e0_12, e0_13, e0_99, e0_100, e0_101]) (by decide) ?_
    refine pops_off (b := false) rfl rfl (by simp only [upd_at, Nat.reduceEqDiff, if_true, if_false, e0_1, e0_8, e0_9, e0_10, e0_11, e0_12, e0_13, e0_99, e0_100, e0_101]) (by decide) ?_
    refine pops_off (b := false) rfl rfl (by simp only [upd_at, Nat.reduceEqDiff, if_true, if_false, e0_1, e0_8, e0_9, e0_10, e0_11, e0_12, e0_13, e0_99, e0_100, e0_101]) (by decide) ?_
    refine pops_to rfl fun M hM => ?_
    simp only [pop, St.eval, constSlot, upd_at, Nat.reduceEqDiff, if_true, if_false, popIf, true_implies, false_implies, Bool.true_eq_false, Bool.false_eq_true, reduceCtorEq, true_and, and_true, e0_1, e0_8, e0_9, e0_10, e0_11, e0_12, e0_13, e0_99, e0_100, e0_101]
    refine hM _ _ ?_
    clear hM M
    refine pops_done (hR74 _ ?_)
    clear hR74 R74
    try simp only [thenK, scopeK]
    refine hN73 _ ?_
    clear hN73 N73
    refine pwp_cond_false (by simp only [St.eval, upd_at, Nat.reduceEqDiff, if_true, if_false, e0_1, e0_8, e0_9, e0_10, e0_11, e0_12, e0_13, e0_99, e0_100, e0_101] <;> rfl) ?_
    refine pwp_skip ?_
    try simp only [thenK, scopeK]
    refine hN72 _ ?_
    clear hN72 N72
    refine pwp_then fun N75 hN75 => ?_
    refine pwp_reg fun R76 hR76 => ?_
    refine pops_mv (.inl rfl) rfl (by simp only [St.eval, upd_at, Nat.reduceEqDiff, if_true, if_false, e0_1, e0_8, e0_9, e0_10, e0_11, e0_12, e0_13, e0_99, e0_100, e0_101] <;> rfl) ?_
    refine pops_mv (.inr rfl) rfl (by simp only [St.eval, upd_at, Nat.reduceEqDiff, if_true, if_false, e0_1, e0_8, e0_9, e0_10, e0_11, e0_12, e0_13, e0_99, e0_100, e0_101] <;> rfl) ?_
    refine pops_mv (.inr rfl) rfl (by simp only [St.eval, constSlot] <;> rfl) ?_
    refine pops_done (hR76 _ ?_)
    clear hR76 R76
    try simp only [thenK, scopeK]
    refine hN75 _ ?_
    clear hN75 N75
    refine pwp_ret ?_
    simp only [thenK, blockK, scopeK, bodyK]
    refine ⟨_, rfl, endFun sl0 ?_⟩
    try simp only [upd_at, Nat.reduceEqDiff, if_true, if_false, e0_1, e0_8, e0_9, e0_10, e0_11, e0_12, e0_13, e0_99, e0_100, e0_101]
    all_goals
     first
       | (rw [hpv, puE, hpb, htk]; rfl)
       | (rw [hpv, puE, hpb]; rfl)
end Go.Pw
