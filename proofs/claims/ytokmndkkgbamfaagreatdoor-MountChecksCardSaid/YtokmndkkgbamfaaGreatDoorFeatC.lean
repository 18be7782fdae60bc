import Derived.Test.YtokmndkkgbamfaaGreatDoorFeatB
namespace Go.Pw
open Go Go.RowKit Go.Proofs
set_option maxRecDepth 100000
set_option linter.unusedSimpArgs false
set_option linter.unusedVariables false
theorem bd57 (parts : List (Nat × Slot)) (N : Slot → Prop) : popBuild Tryz.prog 57 parts N = (match fillP [(0, 1)] [PV.val (.int .i64 0)] parts with | some ps => N (.sv (.agg ps)) | none => False) :=
  popBuild_of (z := (.agg #[(.int .i64 0)])) (by kernel_rfl) (by kernel_rfl) (by kernel_rfl) (by kernel_rfl) parts N
theorem bd172 (parts : List (Nat × Slot)) (N : Slot → Prop) : popBuild Tryz.prog 172 parts N = (match fillP [(0, 1), (1, 1), (2, 1), (3, 1), (4, 1), (5, 1), (6, 1), (7, 1)] [PV.val (.string ⟨#[]⟩), PV.val (.bool false), PV.val (.pointer none), PV.val (.map none), PV.val (.string ⟨#[]⟩), PV.val (.int .i64 0), PV.val (.slice none 0 0), PV.val (.string ⟨#[]⟩)] parts with | some ps => N (.sv (.agg ps)) | none => False) :=
  popBuild_of (z := (.agg #[(.string ⟨#[]⟩), (.bool false), (.pointer none), (.map none), (.string ⟨#[]⟩), (.int .i64 0), (.slice none 0 0), (.string ⟨#[]⟩)])) (by kernel_rfl) (by kernel_rfl) (by kernel_rfl) (by kernel_rfl) parts N
theorem bd177 (parts : List (Nat × Slot)) (N : Slot → Prop) : popBuild Tryz.prog 177 parts N = (match fillP [(0, 9), (9, 1), (10, 1), (11, 1), (12, 1), (13, 1), (14, 1), (15, 1), (16, 1), (17, 1), (18, 1), (19, 1)] [PV.val (.int .i64 0), PV.val (.int .i64 0), PV.val (.int .i64 0), PV.val (.int .i64 0), PV.val (.int .i64 0), PV.val (.int .i64 0), PV.val (.int .i64 0), PV.val (.int .i64 0), PV.val (.string ⟨#[]⟩), PV.val (.pointer none), PV.val (.pointer none), PV.val (.int .i64 0), PV.val (.int .i64 0), PV.val (.slice none 0 0), PV.val (.slice none 0 0), PV.val (.slice none 0 0), PV.val (.int .i64 0), PV.val (.slice none 0 0), PV.val (.map none), PV.val (.map none)] parts with | some ps => N (.sv (.agg ps)) | none => False) :=
  popBuild_of (z := (.agg #[(.int .i64 0), (.int .i64 0), (.int .i64 0), (.int .i64 0), (.int .i64 0), (.int .i64 0), (.int .i64 0), (.int .i64 0), (.string ⟨#[]⟩), (.pointer none), (.pointer none), (.int .i64 0), (.int .i64 0), (.slice none 0 0), (.slice none 0 0), (.slice none 0 0), (.int .i64 0), (.slice none 0 0), (.map none), (.map none)])) (by kernel_rfl) (by kernel_rfl) (by kernel_rfl) (by kernel_rfl) parts N
theorem by223 : bytesOf' Tryz.prog 223 = some 32 := by kernel_rfl
theorem sz23 : szOf Tryz.prog 23 = some 9 := by kernel_rfl
theorem sz27 : szOf Tryz.prog 27 = some 1 := by kernel_rfl
theorem sz54 : szOf Tryz.prog 54 = some 1 := by kernel_rfl
theorem sz58 : szOf Tryz.prog 58 = some 1 := by kernel_rfl
theorem sz177 : szOf Tryz.prog 177 = some 20 := by kernel_rfl
theorem ze223 : zeroOf Tryz.prog 223 = some (.agg #[(.int .i64 0), (.int .i64 0), (.int .i64 0), (.int .i64 0)]) := by kernel_rfl
def newP (e : Int) : PV := if e = 0 then .rop [] else .val (.pointer none)
def newE (x : Feat) (l : List Fault) : Int := if featE x ≠ 0 then featE x else faultsE l
theorem newP_neq {P : Program} {t e2 : TypeId} {e : Int} {K : Value → Prop} (hd : P.underlying t = some (.pointer e2)) (H : K (.bool (e == 0))) : popBin P t .neq (.sv (.one (newP e))) (.sv (.one (.val (.pointer none)))) K := by
  unfold newP
  by_cases h : e = 0
  · subst h
    simp only [if_true]
    unfold popBin
    exact ⟨by rw [hd]; trivial, H⟩
  · rw [if_neg h]
    unfold popBin binK
    refine ⟨by rw [hd]; trivial, ?_⟩
    have : (e == 0) = false := by simpa using h
    rw [this] at H
    exact H
theorem minus_same {h h' : Hp} {id : Nat} (s : Same h h') : Keeps ⟨fun j => if j = id then none else h.blk j, h.lim⟩ h' :=
  ⟨fun j b hj => by
    simp only at hj
    split at hj
    · cases hj
    · rw [s.1]; exact hj, s.2⟩
theorem new_at {h : Hp} {id id2 : Nat} {b c : Blk} (hne : id ≠ id2) (hc : h.blk id = some c) : (h.new id2 b).blk id = some c := by
  simp only [Hp.new]; rw [if_neg hne]; exact hc
theorem minus_plan {h h2 : Hp} {id id2 : Nat} {b b2 c : Blk} (hb : hpOk h) (s : Same h h2) (hid2 : h2.lim ≤ id2) : Keeps ⟨fun j => if j = id then none else h.blk j, h.lim⟩ (((h2.set id b).new id2 b2).set id c) :=
  ⟨fun j bl hj => by
    simp only at hj
    split at hj
    · cases hj
    · rename_i hji
      have := hb j bl hj
      have := s.2
      simp only [Hp.set, Hp.new]
      rw [if_neg hji, if_neg (by omega), if_neg hji, s.1]
      exact hj, by have := s.2; simp only [Hp.set, Hp.new]; omega⟩

def newQ (x : Feat) (e : Int) : PV := if e = 0 then .rop (featPV x) else .val (.pointer none)
section
variable {P : Program} {W0 : World} {h0 h : Hp} {N : Slot → Hp → Prop} {t e u : TypeId}
theorem fld_store9 {id n o : Nat} {cells : List PV} {p : PV} {y : Slot} (hc : h.blk id = some ⟨t, n, [cells], 0, true⟩) (hl : cells.length = n) (ho : o + 1 ≤ n) (h9 : 9 ≤ o) (hy : slotCells y = some [p]) (hs : szOf P u = some 1)
    (H : ∀ cells', cells'.length = n → cells'.take 9 = cells.take 9 → N (.tup []) (h.set id ⟨t, n, [cells'], 0, true⟩)) : popStore P u (.sv (.one (.ptr id 0 0 o))) y h N := by
  unfold popStore
  simp only [hc, hy, List.getElem?_cons_zero, List.length_cons, List.length_nil]
  refine ⟨trivial, hs, by omega, ?_⟩
  refine H (splice cells o [p]) ?_ ?_
  · simp [splice]; omega
  · unfold splice
    rw [List.append_assoc, List.take_append_of_le_length (by rw [List.length_take]; omega), List.take_take, Nat.min_eq_left h9]
/-- A pointer to a block of one's own, told as one to cells that are only read. -/
theorem vr_ptrC {w : World} {m : Loc} {hp : Hp} {id n k : Nat} {cells : List PV} {v : Value} (R : HR W0 w hp m) (hb : hp.blk id = some ⟨t, n, [cells], 0, true⟩) (hb0 : hpOk h0) (hid : h0.lim ≤ id) (K : Keeps h0 hp) (H : VR w hp m (.ptr id 0 0 0) v) : VR w (h0.back hp) m (.rop (cells.take k)) v := by
  cases H with
  | ptr _ _ _ _ ad hid2 hver hbl =>
    obtain rfl := hbl _ hb rfl
    obtain ⟨h00, cur, fr, hg, hcur, hes, hcap, hpl, hfr, hc⟩ := R.live id _ hb
    obtain ⟨hlen, hcell⟩ := hc 0 cells rfl
    rw [Nat.zero_mul, Nat.zero_add]
    have hat : ∀ (j : Nat) (p : PV), (cells.take k)[j]? = some p → ∃ q, cur[j]? = some q ∧ VR w hp m p q := fun j p hj => by
      rw [List.getElem?_take] at hj
      split at hj
      · obtain ⟨q, hq, hr⟩ := hcell j p hj
        simp only [Nat.zero_mul, Nat.zero_add] at hq
        exact ⟨q, hq, hr⟩
      · cases hj
    refine .rop (cells.take k) (m id).1 0 (fun j => (cur[j]?).getD undef) (R.live id _ hb).lt (fun j c hj e => ?_) (fun j p hj => ?_) (fun j p hj => ?_)
    · have hj0 : h0.blk j = some c := hj
      have := hb0 j c hj0
      have := R.inj j id c _ (K.1 j c hj0) hb e
      omega
    · obtain ⟨q, hq, _⟩ := hat j p hj
      rw [cell_of_row w _ _ cur t fr hg, Nat.zero_add, hq]; rfl
    · obtain ⟨q, hq, hr⟩ := hat j p hj
      rw [hq]
      exact hr.ext (Less.back K).ext
theorem endPtrC {hp : Hp} {sv : Slot} {id n k : Nat} {cells : List PV} {v : Value} (hsv : sv = .tup [.one (.ptr id 0 0 0), .one (.val v)]) (hb : hp.blk id = some ⟨t, n, [cells], 0, true⟩) (hb0 : hpOk h0) (hid : h0.lim ≤ id) (K : Keeps h0 hp) :
    ∃ r' h', SlotWk W0 hp sv h' r' ∧ (r' = .tup [.one (.rop (cells.take k)), .one (.val v)] ∧ Same h0 h') := by
  subst hsv
  refine ⟨_, h0.back hp, ⟨Less.back K, fun w m R u x => ?_⟩, rfl, rfl, K.2⟩
  obtain ⟨vs, e1, hl, hvs⟩ := x
  refine ⟨vs, e1, hl, fun j s' u h1 h2 => ?_⟩
  match j, h1, h2 with
  | 0, h1, h2 =>
    obtain rfl := Option.some.inj h1
    exact vr_ptrC R hb hb0 hid K (hvs 0 _ u rfl h2)
  | 1, h1, h2 =>
    obtain rfl := Option.some.inj h1
    have := hvs 1 _ u rfl h2
    exact SVR.ext this (Less.back K).ext
/-- A call whose arguments are told more weakly. -/
theorem PCalls.arg {f : FuncId} {args args' : List SV} {R : Slot → Hp → Prop} (H : PCalls P W0 f args' h R) (hl : args.length = args'.length)
    (hs : ∀ (j : Nat) (s s' : SV) (w : World) (m : Loc) (v : Value), args[j]? = some s → args'[j]? = some s' → SVR w h m s v → SVR w h m s' v) : PCalls P W0 f args h R :=
  ⟨H.1, fun w m vs a b c => H.2 w m vs a (b.trans hl) fun j s' v h1 h2 => by
    have hj : j < args.length := by rw [hl]; exact (List.getElem?_eq_some_iff.1 h1).1
    exact hs j args[j] s' w m v (List.getElem?_eq_getElem hj) h1 (c j _ v (List.getElem?_eq_getElem hj) h2)⟩
theorem nil_ro {w : World} {m : Loc} {full : Bool} {sz : Nat} {v : Value} (H : VR w h m (.val (.slice none 0 0)) v) : VR w h m (.ro full sz []) v := by
  cases H
  exact .ro0 _ _ _ _ (fun _ => rfl)
end
theorem nm107 : (Tryz.f107.name == "runtime.NumGoroutine") = false := by kernel_rfl
theorem cloneF_fun (W0 : World) (full : Bool) (l : List Fault) (hl0 : l.length ≤ 1000) :
  PFun Tryz.prog W0 107 [.one (.ro full 4 (l.map faultPV))] (.sv (.one (.ro false 4 (l.map faultPV)))) := by
 intro h
 refine pcalls1 (n := 8) Tryz.func107 rfl nm107 rfl fun hb => ?_
 refine pwp_then fun N1 hN1 => ?_
 refine pwp_reg fun R2 hR2 => ?_
 refine pops_mv (.inr rfl) rfl (by simp only [St.eval, constSlot] <;> rfl) ?_
 refine pops_done (hR2 _ ?_)
 clear hR2 R2
 try simp only [thenK, scopeK]
 refine hN1 _ ?_
 clear hN1 N1
 refine pwp_then fun N3 hN3 => ?_
 refine pwp_then fun N4 hN4 => ?_
 refine pwp_reg fun R5 hR5 => ?_
 refine pops_mv (.inl rfl) rfl (by simp only [St.eval, upd_at, Nat.reduceEqDiff, if_true, if_false] <;> rfl) ?_
 refine pops_to rfl fun M hM => ?_
 simp only [pop, St.eval, constSlot, upd_at, Nat.reduceEqDiff, if_true, if_false, eq_self, true_and, and_true]
 refine ro_nil Tryz.underlying58 fun b9 hb9 => hM _ _ ?_
 clear hM M
 refine pops_done (hR5 _ ?_)
 clear hR5 R5
 try simp only [thenK, scopeK]
 refine hN4 _ ?_
 clear hN4 N4
 refine pwp_cond (by simp only [St.eval, upd_at, Nat.reduceEqDiff, if_true, if_false] <;> rfl) (fun c4 => ?_) (fun c4 => ?_)
 ·skip
  have hnil : l = [] := by simpa using hb9 c4
  refine pwp_then fun N6 hN6 => ?_
  refine pwp_reg fun R7 hR7 => ?_
  refine pops_mv (.inr rfl) rfl (by simp only [St.eval, constSlot] <;> rfl) ?_
  refine pops_done (hR7 _ ?_)
  clear hR7 R7
  try simp only [thenK, scopeK]
  refine hN6 _ ?_
  clear hN6 N6
  refine pwp_ret ?_
  simp only [thenK, blockK, scopeK, bodyK]
  clear hN3 N3
  exact ⟨_, rfl, by rw [hnil]; exact endNil (Same.refl _) (.inl rfl)⟩
 ·skip
  refine pwp_skip ?_
  try simp only [thenK, scopeK]
  refine hN3 _ ?_
  clear hN3 N3
  refine pwp_then fun N8 hN8 => ?_
  refine pwp_reg fun R9 hR9 => ?_
  refine pops_to rfl fun M hM => ?_
  simp only [pop, St.eval, constSlot, upd_at, Nat.reduceEqDiff, if_true, if_false, if_pos, Nat.reduceEqDiff, eq_self, true_and, and_true, str_list, str_size, str_app, str_cut, str_get]
  refine ⟨by rw [Tryz.underlying58]; trivial, _, 4, Tryz.underlying58, sz223, hM _ _ ?_⟩
  clear hM M
  refine pops_mv (.inl rfl) rfl (by simp only [St.eval, upd_at, Nat.reduceEqDiff, if_true, if_false] <;> rfl) ?_
  refine pops_to rfl fun M hM => ?_
  simp only [pop, St.eval, constSlot, upd_at, Nat.reduceEqDiff, if_true, if_false, popCall, List.toList_toArray, List.map_cons, List.map_nil, popBuiltin, eq_self, true_and, and_true, str_list, str_size, str_app, str_cut, str_get]
  refine app_new (W0 := W0) hb Tryz.underlying58 sz223 by223 ze223 rfl (by decide) (Same.keeps (Same.refl _)) ⟨by simp; omega, by simp; omega⟩ fun sl9 hp9 hk9 => hM _ _ ?_
  clear hM M
  refine pops_mv (.inr rfl) rfl (by simp only [St.eval, upd_at, Nat.reduceEqDiff, if_true, if_false] <;> rfl) ?_
  refine pops_done (hR9 _ ?_)
  clear hR9 R9
  try simp only [thenK, scopeK]
  refine hN8 _ ?_
  clear hN8 N8
  refine pwp_ret ?_
  simp only [thenK, blockK, scopeK, bodyK]
  exact ⟨_, rfl, endRo hk9⟩

theorem nm62 : (Tryz.f62.name == "runtime.NumGoroutine") = false := by kernel_rfl
theorem plan_fun (W0 : World) (full : Bool) (l : List Fault) (hn : l.length ≤ 9223372036854775807) (id : Nat) (cells : List PV) (h : Hp) (hcl : cells.length = 20) (hc : h.blk id = some ⟨177, 20, [cells], 0, true⟩) :
  PCalls Tryz.prog W0 62 [.one (.ptr id 0 0 0), .one (.ro full 4 (l.map faultPV))] h (fun r h' => r = .sv (.one (pint (faultsE l))) ∧ ∃ cells', cells'.length = 20 ∧ cells'.take 9 = cells.take 9 ∧ h'.blk id = some ⟨177, 20, [cells'], 0, true⟩ ∧ Keeps ⟨fun j => if j = id then none else h.blk j, h.lim⟩ h') := by
 refine pcalls2 (n := 75) Tryz.func62 rfl nm62 rfl fun hb => ?_
 refine pwp_then fun N1 hN1 => ?_
 refine pwp_reg fun R2 hR2 => ?_
 refine pops_mv (.inr rfl) rfl (by simp only [St.eval, constSlot] <;> rfl) ?_
 refine pops_done (hR2 _ ?_)
 clear hR2 R2
 try simp only [thenK, scopeK]
 refine hN1 _ ?_
 clear hN1 N1
 refine pwp_then fun N3 hN3 => ?_
 refine pwp_then fun N4 hN4 => ?_
 refine pwp_reg fun R5 hR5 => ?_
 refine pops_mv (.inl rfl) rfl (by simp only [St.eval, upd_at, Nat.reduceEqDiff, if_true, if_false] <;> rfl) ?_
 refine pops_to rfl fun M hM => ?_
 simp only [pop, St.eval, constSlot, upd_at, Nat.reduceEqDiff, if_true, if_false, popCall, List.toList_toArray, List.map_cons, List.map_nil, popBuiltin, popLen, lenOfSlot, List.length_map, Tryz.underlying58, eq_self, true_and, and_true, str_list, str_size, str_app, str_cut, str_get]
 refine hM _ _ ?_
 clear hM M
 refine pops_to rfl fun M hM => ?_
 simp only [pop, St.eval, constSlot, upd_at, Nat.reduceEqDiff, if_true, if_false, popBin, binK, intK, strK, eqK, eq_self, true_and, and_true]
 refine hM _ _ ?_
 clear hM M
 refine pops_done (hR5 _ ?_)
 clear hR5 R5
 try simp only [thenK, scopeK]
 refine hN4 _ ?_
 clear hN4 N4
 refine pwp_cond (by simp only [St.eval, upd_at, Nat.reduceEqDiff, if_true, if_false] <;> rfl) (fun c9 => ?_) (fun c9 => ?_)
 ·skip
  have he0 : faultsE l = 8 := by rw [faultsE, if_pos (by have := of_decide_eq_true c9; omega)]
  refine pwp_then fun N6 hN6 => ?_
  refine pwp_reg fun R7 hR7 => ?_
  refine pops_mv (.inr rfl) rfl (by simp only [St.eval, constSlot] <;> rfl) ?_
  refine pops_done (hR7 _ ?_)
  clear hR7 R7
  try simp only [thenK, scopeK]
  refine hN6 _ ?_
  clear hN6 N6
  refine pwp_ret ?_
  simp only [thenK, blockK, scopeK, bodyK]
  clear hN3 N3
  refine ⟨_, rfl, ?_⟩
  try simp only [upd_at, Nat.reduceEqDiff, if_true, if_false]
  exact ⟨_, _, .refl _ _ _, by rw [he0], cells, hcl, rfl, by rw [(show Same h _ from (Same.refl _)).1]; exact hc, minus_same (Same.refl _)⟩
 ·skip
  have hl0 : l.length ≤ 1000 := by have := of_decide_eq_false c9; omega
  refine pwp_skip ?_
  try simp only [thenK, scopeK]
  refine hN3 _ ?_
  clear hN3 N3
  refine pwp_then fun N8 hN8 => ?_
  refine pwp_then fun N9 hN9 => ?_
  refine pwp_reg fun R10 hR10 => ?_
  refine pops_mv (.inl rfl) rfl (by simp only [St.eval, upd_at, Nat.reduceEqDiff, if_true, if_false] <;> rfl) ?_
  refine pops_to rfl fun M hM => ?_
  simp only [pop, St.eval, constSlot, upd_at, Nat.reduceEqDiff, if_true, if_false, popCall, List.toList_toArray, List.map_cons, List.map_nil, popBuiltin, popLen, lenOfSlot, List.length_map, Tryz.underlying58, eq_self, true_and, and_true, str_list, str_size, str_app, str_cut, str_get]
  refine hM _ _ ?_
  clear hM M
  refine pops_mv (.inl rfl) rfl (by simp only [St.eval, constSlot] <;> rfl) ?_
  refine pops_done (hR10 _ ?_)
  clear hR10 R10
  try simp only [thenK, scopeK]
  refine hN9 _ ?_
  clear hN9 N9
  refine pwp_block ?_
  refine pwp_loop (fun k σ => ∃ (i : Nat), (k = l.length - i) ∧ (i ≤ l.length) ∧ (fsE (l.take i) (l.drop i) = fsE [] l) ∧ (Same h σ.hp) ∧ (σ.env 1 = .sv (.one (.ro full 4 (l.map faultPV)))) ∧ (σ.env 0 = .sv (.one (.ptr id 0 0 0))) ∧ (σ.env 10 = .sv (.one (.ro full 4 (l.map faultPV)))) ∧ (σ.env 11 = .sv (.one (pint (l.length : Nat)))) ∧ (σ.env 12 = .sv (.one (pint (i : Nat))))) _ ⟨_, .refl _ _, 0, rfl, ?_⟩ ?_
  · exact ⟨Nat.zero_le _, rfl, (Same.refl _), by simp only [upd_at, Nat.reduceEqDiff, if_true, if_false], by simp only [upd_at, Nat.reduceEqDiff, if_true, if_false], by simp only [upd_at, Nat.reduceEqDiff, if_true, if_false], by simp only [upd_at, Nat.reduceEqDiff, if_true, if_false], by simp only [upd_at, Nat.reduceEqDiff, if_true, if_false]; rfl⟩
  ·rintro k ⟨e, hp0⟩ ⟨i, hk0, hx0_0, hx0_1, sl0, e0_1, e0_0, e0_10, e0_11, e0_12⟩
   simp only at sl0 e0_1 e0_0 e0_10 e0_11 e0_12
   refine pwp_then fun N11 hN11 => ?_
   refine pwp_reg fun R12 hR12 => ?_
   refine pops_to rfl fun M hM => ?_
   simp only [pop, St.eval, constSlot, upd_at, Nat.reduceEqDiff, if_true, if_false, popBin, binK, intK, strK, eqK, eq_self, true_and, and_true, e0_1, e0_0, e0_10, e0_11, e0_12]
   refine hM _ _ ?_
   clear hM M
   refine pops_done (hR12 _ ?_)
   clear hR12 R12
   try simp only [thenK, scopeK]
   refine hN11 _ ?_
   clear hN11 N11
   refine pwp_then fun N13 hN13 => ?_
   refine pwp_cond (by simp only [St.eval, upd_at, Nat.reduceEqDiff, if_true, if_false, e0_1, e0_0, e0_10, e0_11, e0_12] <;> rfl) (fun c13 => ?_) (fun c13 => ?_)
   ·skip
    have hi : i < l.length := by have := of_decide_eq_true c13; omega
    obtain ⟨f, hx⟩ : ∃ f, l[i]? = some f := ⟨_, List.getElem?_eq_getElem hi⟩
    have hget : (l.map faultPV)[i]? = some (faultPV f) := by simp only [List.getElem?_map, hx, Option.map_some]
    refine pwp_skip ?_
    try simp only [thenK, scopeK]
    refine hN13 _ ?_
    clear hN13 N13
    refine pwp_then fun N14 hN14 => ?_
    refine pwp_block ?_
    refine pwp_then fun N15 hN15 => ?_
    refine pwp_reg fun R16 hR16 => ?_
    refine pops_mv (.inl rfl) rfl (by simp only [St.eval, upd_at, Nat.reduceEqDiff, if_true, if_false, e0_1, e0_0, e0_10, e0_11, e0_12, hget, Int.toNat_natCast, faultPV] <;> rfl) ?_
    refine pops_to rfl fun M hM => ?_
    simp only [pop, St.eval, constSlot, upd_at, Nat.reduceEqDiff, if_true, if_false, popIndexAddr, Tryz.underlying58, sz223, eq_self, true_and, and_true, str_list, str_size, str_app, str_cut, str_get, e0_1, e0_0, e0_10, e0_11, e0_12, hget, Int.toNat_natCast, faultPV]
    refine ⟨Int.natCast_nonneg _, hM _ _ ?_⟩
    clear hM M
    refine pops_to rfl fun M hM => ?_
    simp only [pop, St.eval, constSlot, upd_at, Nat.reduceEqDiff, if_true, if_false, List.length_cons, List.length_nil, Nat.zero_add, Nat.reduceAdd, Nat.reduceLeDiff, List.take_zero, List.take_succ_cons, List.take_nil, List.drop_succ_cons, List.drop_zero, List.drop_nil, List.nil_append, List.cons_append, List.append_nil, and_self, List.getElem?_cons_zero, List.getElem?_cons_succ, List.set_cons_zero, List.set_cons_succ, Option.some.injEq, popLoad, loadK, isAggD, List.drop_zero, List.getElem?_toArray, List.getElem?_cons_zero, List.getElem?_cons_succ, Bool.false_eq_true, Tryz.underlying223, sz223, eq_self, true_and, and_true, e0_1, e0_0, e0_10, e0_11, e0_12, hget, Int.toNat_natCast, faultPV]
    refine hM _ _ ?_
    clear hM M
    refine pops_valloc rfl ze223 (zs := [PV.val (.int .i64 0), PV.val (.int .i64 0), PV.val (.int .i64 0), PV.val (.int .i64 0)]) (by kernel_rfl) (by exact Nat.succ_pos _) (fun id17 hid17 => ?_)
    refine pops_mv (.inr rfl) rfl (by simp only [St.eval, upd_at, Nat.reduceEqDiff, if_true, if_false, e0_1, e0_0, e0_10, e0_11, e0_12, hget, Int.toNat_natCast, faultPV] <;> rfl) ?_
    refine pops_vstore (zs := [PV.val (.int .i64 0), PV.val (.int .i64 0), PV.val (.int .i64 0), PV.val (.int .i64 0)]) (hpOk.same hb sl0) hid17 (by simp only [upd_at, Nat.reduceEqDiff, if_true, if_false, e0_1, e0_0, e0_10, e0_11, e0_12, hget, Int.toNat_natCast, faultPV]) (by simp only [St.eval, constSlot, slotCells, upd_at, Nat.reduceEqDiff, if_true, if_false, e0_1, e0_0, e0_10, e0_11, e0_12, hget, Int.toNat_natCast, faultPV] <;> rfl) (by rfl) (by rw [sz223]; rfl) (fun hv18 sv18 => ?_)
    replace sv18 := Same.trans sl0 sv18
    refine pops_done (hR16 _ ?_)
    clear hR16 R16
    try simp only [thenK, scopeK]
    refine hN15 _ ?_
    clear hN15 N15
    refine pwp_block ?_
    refine pwp_then fun N19 hN19 => ?_
    refine pwp_reg fun R20 hR20 => ?_
    refine pops_to rfl fun M hM => ?_
    simp only [pop, St.eval, constSlot, upd_at, Nat.reduceEqDiff, if_true, if_false, popFieldAddr, fieldOf, List.drop_succ_cons, List.drop_zero, List.getElem?_toArray, List.getElem?_cons_zero, List.getElem?_cons_succ, Tryz.underlying223, sz3, e0_1, e0_0, e0_10, e0_11, e0_12, hget, Int.toNat_natCast, faultPV]
    refine ⟨⟨_, rfl⟩, hM _ _ ?_⟩
    clear hM M
    refine pops_to rfl fun M hM => ?_
    simp only [pop, St.eval, constSlot, upd_at, Nat.reduceEqDiff, if_true, if_false, popLoad, loadK, isAggD, List.drop_zero, List.getElem?_toArray, List.getElem?_cons_zero, List.getElem?_cons_succ, Bool.false_eq_true, Tryz.underlying3, sz3, eq_self, true_and, and_true, e0_1, e0_0, e0_10, e0_11, e0_12, hget, Int.toNat_natCast, faultPV]
    refine hM _ _ ?_
    clear hM M
    refine pops_to rfl fun M hM => ?_
    simp only [pop, St.eval, constSlot, upd_at, Nat.reduceEqDiff, if_true, if_false, popBin, binK, intK, strK, eqK, eq_self, true_and, and_true, e0_1, e0_0, e0_10, e0_11, e0_12, hget, Int.toNat_natCast, faultPV]
    refine hM _ _ ?_
    clear hM M
    refine pops_mv (.inl rfl) rfl (by simp only [St.eval, upd_at, Nat.reduceEqDiff, if_true, if_false, e0_1, e0_0, e0_10, e0_11, e0_12, hget, Int.toNat_natCast, faultPV] <;> rfl) ?_
    apply pops_or0 4 21 25 [22, 23, 24] (by simp only [upd_at, Nat.reduceEqDiff, if_true, if_false, e0_1, e0_0, e0_10, e0_11, e0_12, hget, Int.toNat_natCast, faultPV] <;> rfl)
    ·skip
     intro g21_0 J21 hJ21
     simp only [List.take_succ_cons, List.take_zero]
     simp only [anyAt_cons, anyAt_nil] at hJ21
     refine pops_do rfl rfl (by simp only [upd_at, Nat.reduceEqDiff, if_true, if_false, e0_1, e0_0, e0_10, e0_11, e0_12, hget, Int.toNat_natCast, faultPV, g21_0]) fun M hM => ?_
     simp only [pop, St.eval, constSlot, upd_at, Nat.reduceEqDiff, if_true, if_false, popFieldAddr, fieldOf, List.drop_succ_cons, List.drop_zero, List.getElem?_toArray, List.getElem?_cons_zero, List.getElem?_cons_succ, Tryz.underlying223, sz3, e0_1, e0_0, e0_10, e0_11, e0_12, hget, Int.toNat_natCast, faultPV, g21_0]
     refine ⟨⟨_, rfl⟩, hM _ _ ?_⟩
     clear hM M
     refine pops_do rfl rfl (by simp only [upd_at, Nat.reduceEqDiff, if_true, if_false, e0_1, e0_0, e0_10, e0_11, e0_12, hget, Int.toNat_natCast, faultPV, g21_0]) fun M hM => ?_
     simp only [pop, St.eval, constSlot, upd_at, Nat.reduceEqDiff, if_true, if_false, popLoad, loadK, isAggD, List.drop_zero, List.getElem?_toArray, List.getElem?_cons_zero, List.getElem?_cons_succ, Bool.false_eq_true, Tryz.underlying3, sz3, eq_self, true_and, and_true, e0_1, e0_0, e0_10, e0_11, e0_12, hget, Int.toNat_natCast, faultPV, g21_0]
     refine hM _ _ ?_
     clear hM M
     refine pops_do rfl rfl (by simp only [upd_at, Nat.reduceEqDiff, if_true, if_false, e0_1, e0_0, e0_10, e0_11, e0_12, hget, Int.toNat_natCast, faultPV, g21_0]) fun M hM => ?_
     simp only [pop, St.eval, constSlot, upd_at, Nat.reduceEqDiff, if_true, if_false, popBin, binK, intK, strK, eqK, eq_self, true_and, and_true, e0_1, e0_0, e0_10, e0_11, e0_12, hget, Int.toNat_natCast, faultPV, g21_0]
     refine hM _ _ ?_
     clear hM M
     refine pops_to rfl fun M hM => ?_
     simp only [pop, St.eval, constSlot, upd_at, Nat.reduceEqDiff, if_true, if_false, popIf, true_implies, false_implies, Bool.true_eq_false, Bool.false_eq_true, reduceCtorEq, true_and, and_true, e0_1, e0_0, e0_10, e0_11, e0_12, hget, Int.toNat_natCast, faultPV, g21_0]
     refine hM _ _ ?_
     clear hM M
     exact pops_done (hJ21 _ (wk_same (wk_any ((wk_any ((wk_any (Wk.refl _ _))))))))
    ·skip
     intro g21_0 J21 hJ21
     simp only [List.take_succ_cons, List.take_zero]
     simp only [anyAt_cons, anyAt_nil] at hJ21
     refine pops_off (b := true) rfl rfl (by simp only [upd_at, Nat.reduceEqDiff, if_true, if_false, e0_1, e0_0, e0_10, e0_11, e0_12, hget, Int.toNat_natCast, faultPV, g21_0]) (by decide) ?_
     refine pops_off (b := true) rfl rfl (by simp only [upd_at, Nat.reduceEqDiff, if_true, if_false, e0_1, e0_0, e0_10, e0_11, e0_12, hget, Int.toNat_natCast, faultPV, g21_0]) (by decide) ?_
     refine pops_off (b := true) rfl rfl (by simp only [upd_at, Nat.reduceEqDiff, if_true, if_false, e0_1, e0_0, e0_10, e0_11, e0_12, hget, Int.toNat_natCast, faultPV, g21_0]) (by decide) ?_
     refine pops_to rfl fun M hM => ?_
     simp only [pop, St.eval, constSlot, upd_at, Nat.reduceEqDiff, if_true, if_false, popIf, true_implies, false_implies, Bool.true_eq_false, Bool.false_eq_true, reduceCtorEq, true_and, and_true, e0_1, e0_0, e0_10, e0_11, e0_12, hget, Int.toNat_natCast, faultPV, g21_0]
     refine hM _ _ ?_
     clear hM M
     exact pops_done (hJ21 _ (wk_same (wk_any ((wk_any ((wk_any (Wk.refl _ _))))))))
    simp only [List.drop_succ_cons, List.drop_zero, anyAt_cons, anyAt_nil]
    refine pops_mv (.inr rfl) rfl (by simp only [St.eval, upd_at, Nat.reduceEqDiff, if_true, if_false, e0_1, e0_0, e0_10, e0_11, e0_12, hget, Int.toNat_natCast, faultPV] <;> rfl) ?_
    refine pops_done (hR20 _ ?_)
    clear hR20 R20
    try simp only [thenK, scopeK]
    refine hN19 _ ?_
    clear hN19 N19
    refine pwp_cond (by simp only [St.eval, upd_at, Nat.reduceEqDiff, if_true, if_false, e0_1, e0_0, e0_10, e0_11, e0_12, hget, Int.toNat_natCast, faultPV] <;> rfl) (fun c17 => ?_) (fun c17 => ?_)
    ·skip
     have hfe : fE (l.take i) f = 5 := by rw [fE, if_pos c17]
     have he0 : faultsE l = 5 := by rw [faultsE, if_neg (by omega)]; exact fsE_hit hx hfe (by decide) hx0_1
     refine pwp_then fun N22 hN22 => ?_
     refine pwp_reg fun R23 hR23 => ?_
     refine pops_mv (.inr rfl) rfl (by simp only [St.eval, constSlot] <;> rfl) ?_
     refine pops_done (hR23 _ ?_)
     clear hR23 R23
     try simp only [thenK, scopeK]
     refine hN22 _ ?_
     clear hN22 N22
     refine pwp_ret ?_
     simp only [thenK, blockK, scopeK, bodyK]
     clear hN14 N14 hN8 N8
     refine ⟨_, rfl, ?_⟩
     try simp only [upd_at, Nat.reduceEqDiff, if_true, if_false, e0_1, e0_0, e0_10, e0_11, e0_12, hget, Int.toNat_natCast, faultPV]
     exact ⟨_, _, .refl _ _ _, by rw [he0], cells, hcl, rfl, by rw [(show Same h _ from sv18).1]; exact hc, minus_same sv18⟩
    ·skip
     skip
     refine pwp_then fun N24 hN24 => ?_
     refine pwp_reg fun R25 hR25 => ?_
     refine pops_to rfl fun M hM => ?_
     simp only [pop, St.eval, constSlot, upd_at, Nat.reduceEqDiff, if_true, if_false, popFieldAddr, fieldOf, List.drop_succ_cons, List.drop_zero, List.getElem?_toArray, List.getElem?_cons_zero, List.getElem?_cons_succ, Tryz.underlying223, sz3, e0_1, e0_0, e0_10, e0_11, e0_12, hget, Int.toNat_natCast, faultPV]
     refine ⟨⟨_, rfl⟩, hM _ _ ?_⟩
     clear hM M
     refine pops_to rfl fun M hM => ?_
     simp only [pop, St.eval, constSlot, upd_at, Nat.reduceEqDiff, if_true, if_false, popLoad, loadK, isAggD, List.drop_zero, List.getElem?_toArray, List.getElem?_cons_zero, List.getElem?_cons_succ, Bool.false_eq_true, Tryz.underlying3, sz3, eq_self, true_and, and_true, e0_1, e0_0, e0_10, e0_11, e0_12, hget, Int.toNat_natCast, faultPV]
     refine hM _ _ ?_
     clear hM M
     refine pops_to rfl fun M hM => ?_
     simp only [pop, St.eval, constSlot, upd_at, Nat.reduceEqDiff, if_true, if_false, popBin, binK, intK, strK, eqK, eq_self, true_and, and_true, e0_1, e0_0, e0_10, e0_11, e0_12, hget, Int.toNat_natCast, faultPV]
     refine hM _ _ ?_
     clear hM M
     refine pops_mv (.inl rfl) rfl (by simp only [St.eval, upd_at, Nat.reduceEqDiff, if_true, if_false, e0_1, e0_0, e0_10, e0_11, e0_12, hget, Int.toNat_natCast, faultPV] <;> rfl) ?_
     apply pops_or0 4 30 34 [31, 32, 33] (by simp only [upd_at, Nat.reduceEqDiff, if_true, if_false, e0_1, e0_0, e0_10, e0_11, e0_12, hget, Int.toNat_natCast, faultPV] <;> rfl)
     ·skip
      intro g30_0 J26 hJ26
      simp only [List.take_succ_cons, List.take_zero]
      simp only [anyAt_cons, anyAt_nil] at hJ26
      refine pops_do rfl rfl (by simp only [upd_at, Nat.reduceEqDiff, if_true, if_false, e0_1, e0_0, e0_10, e0_11, e0_12, hget, Int.toNat_natCast, faultPV, g30_0]) fun M hM => ?_
      simp only [pop, St.eval, constSlot, upd_at, Nat.reduceEqDiff, if_true, if_false, popFieldAddr, fieldOf, List.drop_succ_cons, List.drop_zero, List.getElem?_toArray, List.getElem?_cons_zero, List.getElem?_cons_succ, Tryz.underlying223, sz3, e0_1, e0_0, e0_10, e0_11, e0_12, hget, Int.toNat_natCast, faultPV, g30_0]
      refine ⟨⟨_, rfl⟩, hM _ _ ?_⟩
      clear hM M
      refine pops_do rfl rfl (by simp only [upd_at, Nat.reduceEqDiff, if_true, if_false, e0_1, e0_0, e0_10, e0_11, e0_12, hget, Int.toNat_natCast, faultPV, g30_0]) fun M hM => ?_
      simp only [pop, St.eval, constSlot, upd_at, Nat.reduceEqDiff, if_true, if_false, popLoad, loadK, isAggD, List.drop_zero, List.getElem?_toArray, List.getElem?_cons_zero, List.getElem?_cons_succ, Bool.false_eq_true, Tryz.underlying3, sz3, eq_self, true_and, and_true, e0_1, e0_0, e0_10, e0_11, e0_12, hget, Int.toNat_natCast, faultPV, g30_0]
      refine hM _ _ ?_
      clear hM M
      refine pops_do rfl rfl (by simp only [upd_at, Nat.reduceEqDiff, if_true, if_false, e0_1, e0_0, e0_10, e0_11, e0_12, hget, Int.toNat_natCast, faultPV, g30_0]) fun M hM => ?_
      simp only [pop, St.eval, constSlot, upd_at, Nat.reduceEqDiff, if_true, if_false, popBin, binK, intK, strK, eqK, eq_self, true_and, and_true, e0_1, e0_0, e0_10, e0_11, e0_12, hget, Int.toNat_natCast, faultPV, g30_0]
      refine hM _ _ ?_
      clear hM M
      refine pops_to rfl fun M hM => ?_
      simp only [pop, St.eval, constSlot, upd_at, Nat.reduceEqDiff, if_true, if_false, popIf, true_implies, false_implies, Bool.true_eq_false, Bool.false_eq_true, reduceCtorEq, true_and, and_true, e0_1, e0_0, e0_10, e0_11, e0_12, hget, Int.toNat_natCast, faultPV, g30_0]
      refine hM _ _ ?_
      clear hM M
      exact pops_done (hJ26 _ (wk_same (wk_any ((wk_any ((wk_any (Wk.refl _ _))))))))
     ·skip
      intro g30_0 J26 hJ26
      simp only [List.take_succ_cons, List.take_zero]
      simp only [anyAt_cons, anyAt_nil] at hJ26
      refine pops_off (b := true) rfl rfl (by simp only [upd_at, Nat.reduceEqDiff, if_true, if_false, e0_1, e0_0, e0_10, e0_11, e0_12, hget, Int.toNat_natCast, faultPV, g30_0]) (by decide) ?_
      refine pops_off (b := true) rfl rfl (by simp only [upd_at, Nat.reduceEqDiff, if_true, if_false, e0_1, e0_0, e0_10, e0_11, e0_12, hget, Int.toNat_natCast, faultPV, g30_0]) (by decide) ?_
      refine pops_off (b := true) rfl rfl (by simp only [upd_at, Nat.reduceEqDiff, if_true, if_false, e0_1, e0_0, e0_10, e0_11, e0_12, hget, Int.toNat_natCast, faultPV, g30_0]) (by decide) ?_
      refine pops_to rfl fun M hM => ?_
      simp only [pop, St.eval, constSlot, upd_at, Nat.reduceEqDiff, if_true, if_false, popIf, true_implies, false_implies, Bool.true_eq_false, Bool.false_eq_true, reduceCtorEq, true_and, and_true, e0_1, e0_0, e0_10, e0_11, e0_12, hget, Int.toNat_natCast, faultPV, g30_0]
      refine hM _ _ ?_
      clear hM M
      exact pops_done (hJ26 _ (wk_same (wk_any ((wk_any ((wk_any (Wk.refl _ _))))))))
     simp only [List.drop_succ_cons, List.drop_zero, anyAt_cons, anyAt_nil]
     refine pops_mv (.inl rfl) rfl (by simp only [St.eval, upd_at, Nat.reduceEqDiff, if_true, if_false, e0_1, e0_0, e0_10, e0_11, e0_12, hget, Int.toNat_natCast, faultPV] <;> rfl) ?_
     apply pops_or0 4 35 39 [36, 37, 38] (by simp only [upd_at, Nat.reduceEqDiff, if_true, if_false, e0_1, e0_0, e0_10, e0_11, e0_12, hget, Int.toNat_natCast, faultPV] <;> rfl)
     ·skip
      intro g35_0 J27 hJ27
      simp only [List.take_succ_cons, List.take_zero]
      simp only [anyAt_cons, anyAt_nil] at hJ27
      refine pops_do rfl rfl (by simp only [upd_at, Nat.reduceEqDiff, if_true, if_false, e0_1, e0_0, e0_10, e0_11, e0_12, hget, Int.toNat_natCast, faultPV, g35_0]) fun M hM => ?_
      simp only [pop, St.eval, constSlot, upd_at, Nat.reduceEqDiff, if_true, if_false, popFieldAddr, fieldOf, List.drop_succ_cons, List.drop_zero, List.getElem?_toArray, List.getElem?_cons_zero, List.getElem?_cons_succ, Tryz.underlying223, sz3, e0_1, e0_0, e0_10, e0_11, e0_12, hget, Int.toNat_natCast, faultPV, g35_0]
      refine ⟨⟨_, rfl⟩, hM _ _ ?_⟩
      clear hM M
      refine pops_do rfl rfl (by simp only [upd_at, Nat.reduceEqDiff, if_true, if_false, e0_1, e0_0, e0_10, e0_11, e0_12, hget, Int.toNat_natCast, faultPV, g35_0]) fun M hM => ?_
      simp only [pop, St.eval, constSlot, upd_at, Nat.reduceEqDiff, if_true, if_false, popLoad, loadK, isAggD, List.drop_zero, List.getElem?_toArray, List.getElem?_cons_zero, List.getElem?_cons_succ, Bool.false_eq_true, Tryz.underlying3, sz3, eq_self, true_and, and_true, e0_1, e0_0, e0_10, e0_11, e0_12, hget, Int.toNat_natCast, faultPV, g35_0]
      refine hM _ _ ?_
      clear hM M
      refine pops_do rfl rfl (by simp only [upd_at, Nat.reduceEqDiff, if_true, if_false, e0_1, e0_0, e0_10, e0_11, e0_12, hget, Int.toNat_natCast, faultPV, g35_0]) fun M hM => ?_
      simp only [pop, St.eval, constSlot, upd_at, Nat.reduceEqDiff, if_true, if_false, popBin, binK, intK, strK, eqK, eq_self, true_and, and_true, e0_1, e0_0, e0_10, e0_11, e0_12, hget, Int.toNat_natCast, faultPV, g35_0]
      refine hM _ _ ?_
      clear hM M
      refine pops_to rfl fun M hM => ?_
      simp only [pop, St.eval, constSlot, upd_at, Nat.reduceEqDiff, if_true, if_false, popIf, true_implies, false_implies, Bool.true_eq_false, Bool.false_eq_true, reduceCtorEq, true_and, and_true, e0_1, e0_0, e0_10, e0_11, e0_12, hget, Int.toNat_natCast, faultPV, g35_0]
      refine hM _ _ ?_
      clear hM M
      exact pops_done (hJ27 _ (wk_same (wk_any ((wk_any ((wk_any (Wk.refl _ _))))))))
     ·skip
      intro g35_0 J27 hJ27
      simp only [List.take_succ_cons, List.take_zero]
      simp only [anyAt_cons, anyAt_nil] at hJ27
      refine pops_off (b := true) rfl rfl (by simp only [upd_at, Nat.reduceEqDiff, if_true, if_false, e0_1, e0_0, e0_10, e0_11, e0_12, hget, Int.toNat_natCast, faultPV, g35_0]) (by decide) ?_
      refine pops_off (b := true) rfl rfl (by simp only [upd_at, Nat.reduceEqDiff, if_true, if_false, e0_1, e0_0, e0_10, e0_11, e0_12, hget, Int.toNat_natCast, faultPV, g35_0]) (by decide) ?_
      refine pops_off (b := true) rfl rfl (by simp only [upd_at, Nat.reduceEqDiff, if_true, if_false, e0_1, e0_0, e0_10, e0_11, e0_12, hget, Int.toNat_natCast, faultPV, g35_0]) (by decide) ?_
      refine pops_to rfl fun M hM => ?_
      simp only [pop, St.eval, constSlot, upd_at, Nat.reduceEqDiff, if_true, if_false, popIf, true_implies, false_implies, Bool.true_eq_false, Bool.false_eq_true, reduceCtorEq, true_and, and_true, e0_1, e0_0, e0_10, e0_11, e0_12, hget, Int.toNat_natCast, faultPV, g35_0]
      refine hM _ _ ?_
      clear hM M
      exact pops_done (hJ27 _ (wk_same (wk_any ((wk_any ((wk_any (Wk.refl _ _))))))))
     simp only [List.drop_succ_cons, List.drop_zero, anyAt_cons, anyAt_nil]
     refine pops_mv (.inr rfl) rfl (by simp only [St.eval, upd_at, Nat.reduceEqDiff, if_true, if_false, e0_1, e0_0, e0_10, e0_11, e0_12, hget, Int.toNat_natCast, faultPV] <;> rfl) ?_
     refine pops_done (hR25 _ ?_)
     clear hR25 R25
     try simp only [thenK, scopeK]
     refine hN24 _ ?_
     clear hN24 N24
     refine pwp_cond (by simp only [St.eval, upd_at, Nat.reduceEqDiff, if_true, if_false, e0_1, e0_0, e0_10, e0_11, e0_12, hget, Int.toNat_natCast, faultPV] <;> rfl) (fun c26 => ?_) (fun c26 => ?_)
     ·skip
      have hfe : fE (l.take i) f = 7 := by rw [fE, if_neg (by rw [c17]; simp), if_pos c26]
      have he0 : faultsE l = 7 := by rw [faultsE, if_neg (by omega)]; exact fsE_hit hx hfe (by decide) hx0_1
      refine pwp_then fun N28 hN28 => ?_
      refine pwp_reg fun R29 hR29 => ?_
      refine pops_mv (.inr rfl) rfl (by simp only [St.eval, constSlot] <;> rfl) ?_
      refine pops_done (hR29 _ ?_)
      clear hR29 R29
      try simp only [thenK, scopeK]
      refine hN28 _ ?_
      clear hN28 N28
      refine pwp_ret ?_
      simp only [thenK, blockK, scopeK, bodyK]
      clear hN14 N14 hN8 N8
      refine ⟨_, rfl, ?_⟩
      try simp only [upd_at, Nat.reduceEqDiff, if_true, if_false, e0_1, e0_0, e0_10, e0_11, e0_12, hget, Int.toNat_natCast, faultPV]
      exact ⟨_, _, .refl _ _ _, by rw [he0], cells, hcl, rfl, by rw [(show Same h _ from sv18).1]; exact hc, minus_same sv18⟩
     ·skip
      skip
      refine pwp_then fun N30 hN30 => ?_
      refine pwp_reg fun R31 hR31 => ?_
      refine pops_to rfl fun M hM => ?_
      simp only [pop, St.eval, constSlot, upd_at, Nat.reduceEqDiff, if_true, if_false, popFieldAddr, fieldOf, List.drop_succ_cons, List.drop_zero, List.getElem?_toArray, List.getElem?_cons_zero, List.getElem?_cons_succ, Tryz.underlying223, sz27, e0_1, e0_0, e0_10, e0_11, e0_12, hget, Int.toNat_natCast, faultPV]
      refine ⟨⟨_, rfl⟩, hM _ _ ?_⟩
      clear hM M
      refine pops_to rfl fun M hM => ?_
      simp only [pop, St.eval, constSlot, upd_at, Nat.reduceEqDiff, if_true, if_false, popLoad, loadK, isAggD, List.drop_zero, List.getElem?_toArray, List.getElem?_cons_zero, List.getElem?_cons_succ, Bool.false_eq_true, Tryz.underlying27, sz27, eq_self, true_and, and_true, e0_1, e0_0, e0_10, e0_11, e0_12, hget, Int.toNat_natCast, faultPV]
      refine hM _ _ ?_
      clear hM M
      refine pops_to rfl fun M hM => ?_
      simp only [pop, St.eval, constSlot, upd_at, Nat.reduceEqDiff, if_true, if_false, popBin, binK, intK, strK, eqK, Tryz.underlying27, isPtr, eq_self, true_and, and_true, e0_1, e0_0, e0_10, e0_11, e0_12, hget, Int.toNat_natCast, faultPV]
      refine hM _ _ ?_
      clear hM M
      refine pops_mv (.inl rfl) rfl (by simp only [St.eval, upd_at, Nat.reduceEqDiff, if_true, if_false, e0_1, e0_0, e0_10, e0_11, e0_12, hget, Int.toNat_natCast, faultPV] <;> rfl) ?_
      apply pops_and0 4 44 48 [45, 46, 47] (by simp only [upd_at, Nat.reduceEqDiff, if_true, if_false, e0_1, e0_0, e0_10, e0_11, e0_12, hget, Int.toNat_natCast, faultPV] <;> rfl)
      ·skip
       intro g44_0 J32 hJ32
       simp only [List.take_succ_cons, List.take_zero]
       simp only [anyAt_cons, anyAt_nil] at hJ32
       refine pops_do rfl rfl (by simp only [upd_at, Nat.reduceEqDiff, if_true, if_false, e0_1, e0_0, e0_10, e0_11, e0_12, hget, Int.toNat_natCast, faultPV, g44_0]) fun M hM => ?_
       simp only [pop, St.eval, constSlot, upd_at, Nat.reduceEqDiff, if_true, if_false, popFieldAddr, fieldOf, List.drop_succ_cons, List.drop_zero, List.getElem?_toArray, List.getElem?_cons_zero, List.getElem?_cons_succ, Tryz.underlying223, sz27, e0_1, e0_0, e0_10, e0_11, e0_12, hget, Int.toNat_natCast, faultPV, g44_0]
       refine ⟨⟨_, rfl⟩, hM _ _ ?_⟩
       clear hM M
       refine pops_do rfl rfl (by simp only [upd_at, Nat.reduceEqDiff, if_true, if_false, e0_1, e0_0, e0_10, e0_11, e0_12, hget, Int.toNat_natCast, faultPV, g44_0]) fun M hM => ?_
       simp only [pop, St.eval, constSlot, upd_at, Nat.reduceEqDiff, if_true, if_false, popLoad, loadK, isAggD, List.drop_zero, List.getElem?_toArray, List.getElem?_cons_zero, List.getElem?_cons_succ, Bool.false_eq_true, Tryz.underlying27, sz27, eq_self, true_and, and_true, e0_1, e0_0, e0_10, e0_11, e0_12, hget, Int.toNat_natCast, faultPV, g44_0]
       refine hM _ _ ?_
       clear hM M
       refine pops_do rfl rfl (by simp only [upd_at, Nat.reduceEqDiff, if_true, if_false, e0_1, e0_0, e0_10, e0_11, e0_12, hget, Int.toNat_natCast, faultPV, g44_0]) fun M hM => ?_
       simp only [pop, St.eval, constSlot, upd_at, Nat.reduceEqDiff, if_true, if_false, popBin, binK, intK, strK, eqK, Tryz.underlying27, isPtr, eq_self, true_and, and_true, e0_1, e0_0, e0_10, e0_11, e0_12, hget, Int.toNat_natCast, faultPV, g44_0]
       refine hM _ _ ?_
       clear hM M
       refine pops_to rfl fun M hM => ?_
       simp only [pop, St.eval, constSlot, upd_at, Nat.reduceEqDiff, if_true, if_false, popIf, true_implies, false_implies, Bool.true_eq_false, Bool.false_eq_true, reduceCtorEq, true_and, and_true, e0_1, e0_0, e0_10, e0_11, e0_12, hget, Int.toNat_natCast, faultPV, g44_0]
       refine hM _ _ ?_
       clear hM M
       exact pops_done (hJ32 _ (wk_same (wk_any ((wk_any ((wk_any (Wk.refl _ _))))))))
      ·skip
       intro g44_0 J32 hJ32
       simp only [List.take_succ_cons, List.take_zero]
       simp only [anyAt_cons, anyAt_nil] at hJ32
       refine pops_off (b := false) rfl rfl (by simp only [upd_at, Nat.reduceEqDiff, if_true, if_false, e0_1, e0_0, e0_10, e0_11, e0_12, hget, Int.toNat_natCast, faultPV, g44_0]) (by decide) ?_
       refine pops_off (b := false) rfl rfl (by simp only [upd_at, Nat.reduceEqDiff, if_true, if_false, e0_1, e0_0, e0_10, e0_11, e0_12, hget, Int.toNat_natCast, faultPV, g44_0]) (by decide) ?_
       refine pops_off (b := false) rfl rfl (by simp only [upd_at, Nat.reduceEqDiff, if_true, if_false, e0_1, e0_0, e0_10, e0_11, e0_12, hget, Int.toNat_natCast, faultPV, g44_0]) (by decide) ?_
       refine pops_to rfl fun M hM => ?_
       simp only [pop, St.eval, constSlot, upd_at, Nat.reduceEqDiff, if_true, if_false, popIf, true_implies, false_implies, Bool.true_eq_false, Bool.false_eq_true, reduceCtorEq, true_and, and_true, e0_1, e0_0, e0_10, e0_11, e0_12, hget, Int.toNat_natCast, faultPV, g44_0]
       refine hM _ _ ?_
       clear hM M
       exact pops_done (hJ32 _ (wk_same (wk_any ((wk_any ((wk_any (Wk.refl _ _))))))))
      simp only [List.drop_succ_cons, List.drop_zero, anyAt_cons, anyAt_nil]
      refine pops_mv (.inl rfl) rfl (by simp only [St.eval, upd_at, Nat.reduceEqDiff, if_true, if_false, e0_1, e0_0, e0_10, e0_11, e0_12, hget, Int.toNat_natCast, faultPV] <;> rfl) ?_
      apply pops_and0 4 49 53 [50, 51, 52] (by simp only [upd_at, Nat.reduceEqDiff, if_true, if_false, e0_1, e0_0, e0_10, e0_11, e0_12, hget, Int.toNat_natCast, faultPV] <;> rfl)
      ·skip
       intro g49_0 J33 hJ33
       simp only [List.take_succ_cons, List.take_zero]
       simp only [anyAt_cons, anyAt_nil] at hJ33
       refine pops_do rfl rfl (by simp only [upd_at, Nat.reduceEqDiff, if_true, if_false, e0_1, e0_0, e0_10, e0_11, e0_12, hget, Int.toNat_natCast, faultPV, g49_0]) fun M hM => ?_
       simp only [pop, St.eval, constSlot, upd_at, Nat.reduceEqDiff, if_true, if_false, popFieldAddr, fieldOf, List.drop_succ_cons, List.drop_zero, List.getElem?_toArray, List.getElem?_cons_zero, List.getElem?_cons_succ, Tryz.underlying223, sz27, e0_1, e0_0, e0_10, e0_11, e0_12, hget, Int.toNat_natCast, faultPV, g49_0]
       refine ⟨⟨_, rfl⟩, hM _ _ ?_⟩
       clear hM M
       refine pops_do rfl rfl (by simp only [upd_at, Nat.reduceEqDiff, if_true, if_false, e0_1, e0_0, e0_10, e0_11, e0_12, hget, Int.toNat_natCast, faultPV, g49_0]) fun M hM => ?_
       simp only [pop, St.eval, constSlot, upd_at, Nat.reduceEqDiff, if_true, if_false, popLoad, loadK, isAggD, List.drop_zero, List.getElem?_toArray, List.getElem?_cons_zero, List.getElem?_cons_succ, Bool.false_eq_true, Tryz.underlying27, sz27, eq_self, true_and, and_true, e0_1, e0_0, e0_10, e0_11, e0_12, hget, Int.toNat_natCast, faultPV, g49_0]
       refine hM _ _ ?_
       clear hM M
       refine pops_do rfl rfl (by simp only [upd_at, Nat.reduceEqDiff, if_true, if_false, e0_1, e0_0, e0_10, e0_11, e0_12, hget, Int.toNat_natCast, faultPV, g49_0]) fun M hM => ?_
       simp only [pop, St.eval, constSlot, upd_at, Nat.reduceEqDiff, if_true, if_false, popBin, binK, intK, strK, eqK, Tryz.underlying27, isPtr, eq_self, true_and, and_true, e0_1, e0_0, e0_10, e0_11, e0_12, hget, Int.toNat_natCast, faultPV, g49_0]
       refine hM _ _ ?_
       clear hM M
       refine pops_to rfl fun M hM => ?_
       simp only [pop, St.eval, constSlot, upd_at, Nat.reduceEqDiff, if_true, if_false, popIf, true_implies, false_implies, Bool.true_eq_false, Bool.false_eq_true, reduceCtorEq, true_and, and_true, e0_1, e0_0, e0_10, e0_11, e0_12, hget, Int.toNat_natCast, faultPV, g49_0]
       refine hM _ _ ?_
       clear hM M
       exact pops_done (hJ33 _ (wk_same (wk_any ((wk_any ((wk_any (Wk.refl _ _))))))))
      ·skip
       intro g49_0 J33 hJ33
       simp only [List.take_succ_cons, List.take_zero]
       simp only [anyAt_cons, anyAt_nil] at hJ33
       refine pops_off (b := false) rfl rfl (by simp only [upd_at, Nat.reduceEqDiff, if_true, if_false, e0_1, e0_0, e0_10, e0_11, e0_12, hget, Int.toNat_natCast, faultPV, g49_0]) (by decide) ?_
       refine pops_off (b := false) rfl rfl (by simp only [upd_at, Nat.reduceEqDiff, if_true, if_false, e0_1, e0_0, e0_10, e0_11, e0_12, hget, Int.toNat_natCast, faultPV, g49_0]) (by decide) ?_
       refine pops_off (b := false) rfl rfl (by simp only [upd_at, Nat.reduceEqDiff, if_true, if_false, e0_1, e0_0, e0_10, e0_11, e0_12, hget, Int.toNat_natCast, faultPV, g49_0]) (by decide) ?_
       refine pops_to rfl fun M hM => ?_
       simp only [pop, St.eval, constSlot, upd_at, Nat.reduceEqDiff, if_true, if_false, popIf, true_implies, false_implies, Bool.true_eq_false, Bool.false_eq_true, reduceCtorEq, true_and, and_true, e0_1, e0_0, e0_10, e0_11, e0_12, hget, Int.toNat_natCast, faultPV, g49_0]
       refine hM _ _ ?_
       clear hM M
       exact pops_done (hJ33 _ (wk_same (wk_any ((wk_any ((wk_any (Wk.refl _ _))))))))
      simp only [List.drop_succ_cons, List.drop_zero, anyAt_cons, anyAt_nil]
      refine pops_mv (.inl rfl) rfl (by simp only [St.eval, upd_at, Nat.reduceEqDiff, if_true, if_false, e0_1, e0_0, e0_10, e0_11, e0_12, hget, Int.toNat_natCast, faultPV] <;> rfl) ?_
      apply pops_and0 4 54 58 [55, 56, 57] (by simp only [upd_at, Nat.reduceEqDiff, if_true, if_false, e0_1, e0_0, e0_10, e0_11, e0_12, hget, Int.toNat_natCast, faultPV] <;> rfl)
      ·skip
       intro g54_0 J34 hJ34
       simp only [List.take_succ_cons, List.take_zero]
       simp only [anyAt_cons, anyAt_nil] at hJ34
       refine pops_do rfl rfl (by simp only [upd_at, Nat.reduceEqDiff, if_true, if_false, e0_1, e0_0, e0_10, e0_11, e0_12, hget, Int.toNat_natCast, faultPV, g54_0]) fun M hM => ?_
       simp only [pop, St.eval, constSlot, upd_at, Nat.reduceEqDiff, if_true, if_false, popFieldAddr, fieldOf, List.drop_succ_cons, List.drop_zero, List.getElem?_toArray, List.getElem?_cons_zero, List.getElem?_cons_succ, Tryz.underlying223, sz27, e0_1, e0_0, e0_10, e0_11, e0_12, hget, Int.toNat_natCast, faultPV, g54_0]
       refine ⟨⟨_, rfl⟩, hM _ _ ?_⟩
       clear hM M
       refine pops_do rfl rfl (by simp only [upd_at, Nat.reduceEqDiff, if_true, if_false, e0_1, e0_0, e0_10, e0_11, e0_12, hget, Int.toNat_natCast, faultPV, g54_0]) fun M hM => ?_
       simp only [pop, St.eval, constSlot, upd_at, Nat.reduceEqDiff, if_true, if_false, popLoad, loadK, isAggD, List.drop_zero, List.getElem?_toArray, List.getElem?_cons_zero, List.getElem?_cons_succ, Bool.false_eq_true, Tryz.underlying27, sz27, eq_self, true_and, and_true, e0_1, e0_0, e0_10, e0_11, e0_12, hget, Int.toNat_natCast, faultPV, g54_0]
       refine hM _ _ ?_
       clear hM M
       refine pops_do rfl rfl (by simp only [upd_at, Nat.reduceEqDiff, if_true, if_false, e0_1, e0_0, e0_10, e0_11, e0_12, hget, Int.toNat_natCast, faultPV, g54_0]) fun M hM => ?_
       simp only [pop, St.eval, constSlot, upd_at, Nat.reduceEqDiff, if_true, if_false, popBin, binK, intK, strK, eqK, Tryz.underlying27, isPtr, eq_self, true_and, and_true, e0_1, e0_0, e0_10, e0_11, e0_12, hget, Int.toNat_natCast, faultPV, g54_0]
       refine hM _ _ ?_
       clear hM M
       refine pops_to rfl fun M hM => ?_
       simp only [pop, St.eval, constSlot, upd_at, Nat.reduceEqDiff, if_true, if_false, popIf, true_implies, false_implies, Bool.true_eq_false, Bool.false_eq_true, reduceCtorEq, true_and, and_true, e0_1, e0_0, e0_10, e0_11, e0_12, hget, Int.toNat_natCast, faultPV, g54_0]
       refine hM _ _ ?_
       clear hM M
       exact pops_done (hJ34 _ (wk_same (wk_any ((wk_any ((wk_any (Wk.refl _ _))))))))
      ·skip
       intro g54_0 J34 hJ34
       simp only [List.take_succ_cons, List.take_zero]
       simp only [anyAt_cons, anyAt_nil] at hJ34
       refine pops_off (b := false) rfl rfl (by simp only [upd_at, Nat.reduceEqDiff, if_true, if_false, e0_1, e0_0, e0_10, e0_11, e0_12, hget, Int.toNat_natCast, faultPV, g54_0]) (by decide) ?_
       refine pops_off (b := false) rfl rfl (by simp only [upd_at, Nat.reduceEqDiff, if_true, if_false, e0_1, e0_0, e0_10, e0_11, e0_12, hget, Int.toNat_natCast, faultPV, g54_0]) (by decide) ?_
       refine pops_off (b := false) rfl rfl (by simp only [upd_at, Nat.reduceEqDiff, if_true, if_false, e0_1, e0_0, e0_10, e0_11, e0_12, hget, Int.toNat_natCast, faultPV, g54_0]) (by decide) ?_
       refine pops_to rfl fun M hM => ?_
       simp only [pop, St.eval, constSlot, upd_at, Nat.reduceEqDiff, if_true, if_false, popIf, true_implies, false_implies, Bool.true_eq_false, Bool.false_eq_true, reduceCtorEq, true_and, and_true, e0_1, e0_0, e0_10, e0_11, e0_12, hget, Int.toNat_natCast, faultPV, g54_0]
       refine hM _ _ ?_
       clear hM M
       exact pops_done (hJ34 _ (wk_same (wk_any ((wk_any ((wk_any (Wk.refl _ _))))))))
      simp only [List.drop_succ_cons, List.drop_zero, anyAt_cons, anyAt_nil]
      refine pops_mv (.inr rfl) rfl (by simp only [St.eval, upd_at, Nat.reduceEqDiff, if_true, if_false, e0_1, e0_0, e0_10, e0_11, e0_12, hget, Int.toNat_natCast, faultPV] <;> rfl) ?_
      refine pops_done (hR31 _ ?_)
      clear hR31 R31
      try simp only [thenK, scopeK]
      refine hN30 _ ?_
      clear hN30 N30
      refine pwp_cond (by simp only [St.eval, upd_at, Nat.reduceEqDiff, if_true, if_false, e0_1, e0_0, e0_10, e0_11, e0_12, hget, Int.toNat_natCast, faultPV] <;> rfl) (fun c40 => ?_) (fun c40 => ?_)
      ·skip
       have hfe : fE (l.take i) f = 6 := by rw [fE, if_neg (by rw [c17]; simp), if_neg (by rw [c26]; simp), if_pos (show errB f = true from c40)]
       have he0 : faultsE l = 6 := by rw [faultsE, if_neg (by omega)]; exact fsE_hit hx hfe (by decide) hx0_1
       refine pwp_then fun N35 hN35 => ?_
       refine pwp_reg fun R36 hR36 => ?_
       refine pops_mv (.inr rfl) rfl (by simp only [St.eval, constSlot] <;> rfl) ?_
       refine pops_done (hR36 _ ?_)
       clear hR36 R36
       try simp only [thenK, scopeK]
       refine hN35 _ ?_
       clear hN35 N35
       refine pwp_ret ?_
       simp only [thenK, blockK, scopeK, bodyK]
       clear hN14 N14 hN8 N8
       refine ⟨_, rfl, ?_⟩
       try simp only [upd_at, Nat.reduceEqDiff, if_true, if_false, e0_1, e0_0, e0_10, e0_11, e0_12, hget, Int.toNat_natCast, faultPV]
       exact ⟨_, _, .refl _ _ _, by rw [he0], cells, hcl, rfl, by rw [(show Same h _ from sv18).1]; exact hc, minus_same sv18⟩
      ·skip
       skip
       refine pwp_then fun N37 hN37 => ?_
       refine pwp_reg fun R38 hR38 => ?_
       refine pops_mv (.inl rfl) rfl (by simp only [St.eval, upd_at, Nat.reduceEqDiff, if_true, if_false, e0_1, e0_0, e0_10, e0_11, e0_12, hget, Int.toNat_natCast, faultPV] <;> rfl) ?_
       refine pops_mv (.inl rfl) rfl (by simp only [St.eval, upd_at, Nat.reduceEqDiff, if_true, if_false, e0_1, e0_0, e0_10, e0_11, e0_12, hget, Int.toNat_natCast, faultPV] <;> rfl) ?_
       refine pops_to rfl fun M hM => ?_
       simp only [pop, St.eval, constSlot, upd_at, Nat.reduceEqDiff, if_true, if_false, popSlice, boundOf, Option.map_none, Option.map_some, Tryz.underlying58, sz223, eq_self, true_and, and_true, str_list, str_size, str_app, str_cut, str_get, e0_1, e0_0, e0_10, e0_11, e0_12, hget, Int.toNat_natCast, faultPV, Int.toNat_natCast, Int.toNat_zero, List.drop_zero, ← List.map_take]
       refine ⟨Int.le_refl _, by omega, by simp; omega, hM _ _ ?_⟩
       clear hM M
       refine pops_to rfl fun M hM => ?_
       simp only [pop, St.eval, constSlot, upd_at, Nat.reduceEqDiff, if_true, if_false, onesOf, List.toList_toArray, List.map_cons, List.map_nil, List.mapM_cons, List.mapM_nil, Option.bind_eq_bind, Option.bind_some, Option.pure_def, eq_self, true_and, e0_1, e0_0, e0_10, e0_11, e0_12, hget, Int.toNat_natCast, faultPV]
       refine hM _ _ ?_
       clear hM M
       refine pops_to rfl fun M hM => ?_
       simp only [pop, St.eval, constSlot, upd_at, Nat.reduceEqDiff, if_true, if_false, popCall, List.toList_toArray, List.map_cons, List.map_nil, svs, List.mapM_cons, List.mapM_nil, Option.bind_eq_bind, Option.bind_some, Option.pure_def, List.append_nil, List.cons_append, List.nil_append, str_size, e0_1, e0_0, e0_10, e0_11, e0_12, hget, Int.toNat_natCast, faultPV]
       refine PFun.use (containsF_fun W0 106 [.rop (faultPV f)] (sameF f) false (l.take i) (fun g _ => sameF_fun W0 f g) (by rw [List.length_take]; omega)) fun h1 s1 => hM _ _ ?_
       replace s1 := Same.trans sv18 s1
       clear hM M
       refine pops_mv (.inr rfl) rfl (by simp only [St.eval, upd_at, Nat.reduceEqDiff, if_true, if_false, e0_1, e0_0, e0_10, e0_11, e0_12, hget, Int.toNat_natCast, faultPV] <;> rfl) ?_
       refine pops_done (hR38 _ ?_)
       clear hR38 R38
       try simp only [thenK, scopeK]
       refine hN37 _ ?_
       clear hN37 N37
       refine pwp_cond (by simp only [St.eval, upd_at, Nat.reduceEqDiff, if_true, if_false, e0_1, e0_0, e0_10, e0_11, e0_12, hget, Int.toNat_natCast, faultPV] <;> rfl) (fun c59 => ?_) (fun c59 => ?_)
       ·skip
        have hfe : fE (l.take i) f = 4 := by rw [fE, if_neg (by rw [c17]; simp), if_neg (by rw [c26]; simp), if_neg (by rw [show errB f = false from c40]; simp), if_pos c59]
        have he0 : faultsE l = 4 := by rw [faultsE, if_neg (by omega)]; exact fsE_hit hx hfe (by decide) hx0_1
        refine pwp_then fun N39 hN39 => ?_
        refine pwp_reg fun R40 hR40 => ?_
        refine pops_mv (.inr rfl) rfl (by simp only [St.eval, constSlot] <;> rfl) ?_
        refine pops_done (hR40 _ ?_)
        clear hR40 R40
        try simp only [thenK, scopeK]
        refine hN39 _ ?_
        clear hN39 N39
        refine pwp_ret ?_
        simp only [thenK, blockK, scopeK, bodyK]
        clear hN14 N14 hN8 N8
        refine ⟨_, rfl, ?_⟩
        try simp only [upd_at, Nat.reduceEqDiff, if_true, if_false, e0_1, e0_0, e0_10, e0_11, e0_12, hget, Int.toNat_natCast, faultPV]
        exact ⟨_, _, .refl _ _ _, by rw [he0], cells, hcl, rfl, by rw [(show Same h _ from s1).1]; exact hc, minus_same s1⟩
       ·skip
        have hfe : fE (l.take i) f = 0 := by rw [fE, if_neg (by rw [c17]; simp), if_neg (by rw [c26]; simp), if_neg (by rw [show errB f = false from c40]; simp), if_neg (by rw [c59]; simp)]
        refine pwp_skip ?_
        try simp only [blockK, thenK, scopeK]
        try simp only [blockK, thenK, scopeK]
        try simp only [thenK, scopeK]
        refine hN14 _ ?_
        clear hN14 N14
        refine pwp_reg fun R41 hR41 => ?_
        refine pops_to rfl fun M hM => ?_
        simp only [pop, St.eval, constSlot, upd_at, Nat.reduceEqDiff, if_true, if_false, popBin, binK, intK, strK, eqK, eq_self, true_and, and_true, e0_1, e0_0, e0_10, e0_11, e0_12, hget, Int.toNat_natCast, faultPV]
        refine hM _ _ ?_
        clear hM M
        refine pops_mv (.inl rfl) rfl (by simp only [St.eval, upd_at, Nat.reduceEqDiff, if_true, if_false, e0_1, e0_0, e0_10, e0_11, e0_12, hget, Int.toNat_natCast, faultPV] <;> rfl) ?_
        refine pops_done (hR41 _ ?_)
        clear hR41 R41
        try simp only [thenK, scopeK]
        exact ⟨_, by omega, _, .refl _ _, i + 1, rfl, by omega, fsE_step hx hfe hx0_1, s1, by simp only [upd_at, Nat.reduceEqDiff, if_true, if_false, e0_1, e0_0, e0_10, e0_11, e0_12, hget, Int.toNat_natCast, faultPV], by simp only [upd_at, Nat.reduceEqDiff, if_true, if_false, e0_1, e0_0, e0_10, e0_11, e0_12, hget, Int.toNat_natCast, faultPV], by simp only [upd_at, Nat.reduceEqDiff, if_true, if_false, e0_1, e0_0, e0_10, e0_11, e0_12, hget, Int.toNat_natCast, faultPV], by simp only [upd_at, Nat.reduceEqDiff, if_true, if_false, e0_1, e0_0, e0_10, e0_11, e0_12, hget, Int.toNat_natCast, faultPV], by simp only [upd_at, Nat.reduceEqDiff, if_true, if_false, e0_12]; rw [wrap_succ (by omega)]⟩
   ·skip
    have hi := of_decide_eq_false c13
    have he0 : faultsE l = 0 := by rw [faultsE, if_neg (by omega)]; exact fsE_end hi hx0_1
    refine pwp_exit ?_
    try simp only [thenK, blockK, scopeK, if_true, Nat.reduceEqDiff, if_false]
    clear hN13 N13
    try simp only [blockK, scopeK, if_true, Nat.reduceEqDiff, if_false, thenK]
    try simp only [thenK, scopeK]
    refine hN8 _ ?_
    clear hN8 N8
    refine pwp_then fun N42 hN42 => ?_
    refine pwp_reg fun R43 hR43 => ?_
    refine pops_mv (.inl rfl) rfl (by simp only [St.eval, upd_at, Nat.reduceEqDiff, if_true, if_false, e0_1, e0_0, e0_10, e0_11, e0_12] <;> rfl) ?_
    refine pops_mv (.inl rfl) rfl (by simp only [St.eval, upd_at, Nat.reduceEqDiff, if_true, if_false, e0_1, e0_0, e0_10, e0_11, e0_12] <;> rfl) ?_
    refine pops_to rfl fun M hM => ?_
    simp only [pop, St.eval, constSlot, upd_at, Nat.reduceEqDiff, if_true, if_false, popCall, List.toList_toArray, List.map_cons, List.map_nil, svs, List.mapM_cons, List.mapM_nil, Option.bind_eq_bind, Option.bind_some, Option.pure_def, List.append_nil, List.cons_append, List.nil_append, str_size, e0_1, e0_0, e0_10, e0_11, e0_12]
    refine PFun.use (cloneF_fun W0 full l hl0) fun h2 s2 => hM _ _ ?_
    replace s2 := Same.trans sl0 s2
    clear hM M
    refine pops_to rfl fun M hM => ?_
    simp only [pop, St.eval, constSlot, upd_at, Nat.reduceEqDiff, if_true, if_false, eq_self, true_and, and_true, str_list, str_size, str_app, str_cut, str_get, e0_1, e0_0, e0_10, e0_11, e0_12]
    refine hM _ _ ?_
    clear hM M
    refine pops_to rfl fun M hM => ?_
    simp only [pop, St.eval, constSlot, upd_at, Nat.reduceEqDiff, if_true, if_false, popFieldAddr, fieldOf, List.drop_succ_cons, List.drop_zero, List.getElem?_toArray, List.getElem?_cons_zero, List.getElem?_cons_succ, Tryz.underlying177, sz58, e0_1, e0_0, e0_10, e0_11, e0_12]
    refine ⟨⟨_, rfl⟩, hM _ _ ?_⟩
    clear hM M
    refine pops_no fun M hM => ?_
    simp only [pop, St.eval, constSlot, upd_at, Nat.reduceEqDiff, if_true, if_false, eq_self, true_and, and_true, str_list, str_size, str_app, str_cut, str_get, e0_1, e0_0, e0_10, e0_11, e0_12]
    have hS15 : Same h _ := s2
    refine fld_store9 (cells := cells) (by rw [hS15.1]; exact hc) hcl (by decide) (by decide) rfl sz58 fun cells2 hcl2 htk2 => hM _ _ ?_
    have hc2 : (Hp.set h2 id ⟨177, 20, [cells2], 0, true⟩).blk id = some ⟨177, 20, [cells2], 0, true⟩ := blk_set _ _ _
    have hidl := hb id _ hc
    clear hM M
    refine pops_done (hR43 _ ?_)
    clear hR43 R43
    try simp only [thenK, scopeK]
    refine hN42 _ ?_
    clear hN42 N42
    refine pwp_then fun N44 hN44 => ?_
    refine pwp_reg fun R45 hR45 => ?_
    refine pops_mv (.inl rfl) rfl (by simp only [St.eval, upd_at, Nat.reduceEqDiff, if_true, if_false, e0_1, e0_0, e0_10, e0_11, e0_12] <;> rfl) ?_
    refine pops_to rfl fun M hM => ?_
    simp only [pop, St.eval, constSlot, upd_at, Nat.reduceEqDiff, if_true, if_false, popMakeSlice, Tryz.underlying54, sz3, ze3, by3, zeroCells', eq_self, true_and, and_true, str_list, str_size, str_app, str_cut, str_get, e0_1, e0_0, e0_10, e0_11, e0_12]
    refine ⟨by decide, rfl, by kernel_rfl, by decide, by decide, by decide, by decide, fun id2 hid2 => hM _ _ ?_⟩
    have hid3 : id ≠ id2 := by have := hS15.2; simp only [Hp.set] at hid2; omega
    have hc3 := new_at (b := ⟨3, 1, List.replicate (14 : Int).toNat [PV.val (.int .i64 0)], 0, true⟩) hid3 hc2
    clear hM M
    refine pops_to rfl fun M hM => ?_
    simp only [pop, St.eval, constSlot, upd_at, Nat.reduceEqDiff, if_true, if_false, eq_self, true_and, and_true, str_list, str_size, str_app, str_cut, str_get, e0_1, e0_0, e0_10, e0_11, e0_12]
    refine hM _ _ ?_
    clear hM M
    refine pops_to rfl fun M hM => ?_
    simp only [pop, St.eval, constSlot, upd_at, Nat.reduceEqDiff, if_true, if_false, popFieldAddr, fieldOf, List.drop_succ_cons, List.drop_zero, List.getElem?_toArray, List.getElem?_cons_zero, List.getElem?_cons_succ, Tryz.underlying177, sz54, e0_1, e0_0, e0_10, e0_11, e0_12]
    refine ⟨⟨_, rfl⟩, hM _ _ ?_⟩
    clear hM M
    refine pops_no fun M hM => ?_
    simp only [pop, St.eval, constSlot, upd_at, Nat.reduceEqDiff, if_true, if_false, eq_self, true_and, and_true, str_list, str_size, str_app, str_cut, str_get, e0_1, e0_0, e0_10, e0_11, e0_12]
    refine fld_store9 (cells := cells2) hc3 hcl2 (by decide) (by decide) rfl sz54 fun cells3 hcl3 htk3 => hM _ _ ?_
    clear hM M
    refine pops_done (hR45 _ ?_)
    clear hR45 R45
    try simp only [thenK, scopeK]
    refine hN44 _ ?_
    clear hN44 N44
    refine pwp_then fun N46 hN46 => ?_
    refine pwp_reg fun R47 hR47 => ?_
    refine pops_mv (.inr rfl) rfl (by simp only [St.eval, constSlot] <;> rfl) ?_
    refine pops_done (hR47 _ ?_)
    clear hR47 R47
    try simp only [thenK, scopeK]
    refine hN46 _ ?_
    clear hN46 N46
    refine pwp_ret ?_
    simp only [thenK, blockK, scopeK, bodyK]
    refine ⟨_, rfl, ?_⟩
    try simp only [upd_at, Nat.reduceEqDiff, if_true, if_false, e0_1, e0_0, e0_10, e0_11, e0_12]
    exact ⟨_, _, .refl _ _ _, by rw [he0], cells3, hcl3, htk3.trans htk2, blk_set _ _ _, minus_plan hb hS15 hid2⟩

theorem nm9 : (Tryz.f9.name == "runtime.NumGoroutine") = false := by kernel_rfl
theorem newClockRo_fun (W0 : World) (t : Int) :
  PFun Tryz.prog W0 9 [.one (pint t)] (.sv (.one (.rop [pint (clampR t)]))) := by
 intro h
 refine pcalls1 (n := 8) Tryz.func9 rfl nm9 rfl fun hb => ?_
 refine pwp_then fun N1 hN1 => ?_
 refine pwp_reg fun R2 hR2 => ?_
 refine pops_mv (.inr rfl) rfl (by simp only [St.eval, constSlot] <;> rfl) ?_
 refine pops_done (hR2 _ ?_)
 clear hR2 R2
 try simp only [thenK, scopeK]
 refine hN1 _ ?_
 clear hN1 N1
 refine pwp_then fun N3 hN3 => ?_
 refine pwp_reg fun R4 hR4 => ?_
 refine pops_mv (.inl rfl) rfl (by simp only [St.eval, upd_at, Nat.reduceEqDiff, if_true, if_false] <;> rfl) ?_
 refine pops_to rfl fun M hM => ?_
 simp only [pop, St.eval, constSlot, upd_at, Nat.reduceEqDiff, if_true, if_false, popCall, List.toList_toArray, List.map_cons, List.map_nil, popBuiltin, eq_self, true_and, and_true, str_list, str_size, str_app, str_cut, str_get]
 refine hM _ _ ?_
 clear hM M
 refine pops_to rfl fun M hM => ?_
 simp only [pop, St.eval, constSlot, upd_at, Nat.reduceEqDiff, if_true, if_false, popCall, List.toList_toArray, List.map_cons, List.map_nil, popBuiltin, eq_self, true_and, and_true, str_list, str_size, str_app, str_cut, str_get]
 refine hM _ _ ?_
 clear hM M
 refine pops_to rfl fun M hM => ?_
 simp only [pop, St.eval, constSlot, upd_at, Nat.reduceEqDiff, if_true, if_false, fillP, slotCells, splice, List.toList_toArray, List.map_cons, List.map_nil, List.length_cons, List.length_nil, Nat.zero_add, Nat.reduceAdd, Nat.reduceLeDiff, List.take_zero, List.take_succ_cons, List.take_nil, List.drop_succ_cons, List.drop_zero, List.drop_nil, List.nil_append, List.cons_append, List.append_nil, and_self, List.getElem?_cons_zero, List.getElem?_cons_succ, List.set_cons_zero, List.set_cons_succ, Option.some.injEq, bd57, eq_self, true_and, and_true, str_list, str_size, str_app, str_cut, str_get]
 refine hM _ _ ?_
 clear hM M
 refine pops_to rfl fun M hM => ?_
 simp only [pop, St.eval, constSlot, upd_at, Nat.reduceEqDiff, if_true, if_false, popBox, popBoxRo, slotCells]
 refine .inr ⟨Nat.succ_pos _, hM _ _ ?_⟩
 clear hM M
 refine pops_mv (.inr rfl) rfl (by simp only [St.eval, upd_at, Nat.reduceEqDiff, if_true, if_false] <;> rfl) ?_
 refine pops_done (hR4 _ ?_)
 clear hR4 R4
 try simp only [thenK, scopeK]
 refine hN3 _ ?_
 clear hN3 N3
 refine pwp_ret ?_
 simp only [thenK, blockK, scopeK, bodyK]
 refine ⟨_, rfl, endFun (Same.refl _) ?_⟩
 try simp only [upd_at, Nat.reduceEqDiff, if_true, if_false]
 all_goals
  rfl

theorem nm22 : (Tryz.f22.name == "runtime.NumGoroutine") = false := by kernel_rfl
theorem newMem_fun (W0 : World) (x : Feat) (hf : x.forbid.length ≤ 9223372036854775807) (full : Bool) (l : List Fault) (hn : l.length ≤ 9223372036854775807) (cs : List PV) :
  PFun Tryz.prog W0 22 [.agg (featPV x), .one (.rop cs), .one (.ro full 4 (l.map faultPV))] (.tup [.one (newQ x (newE x l)), .one (pint (newE x l))]) := by
 intro h
 refine pcalls3 (n := 35) Tryz.func22 rfl nm22 rfl fun hb => ?_
 refine pwp_then fun N1 hN1 => ?_
 refine pwp_reg fun R2 hR2 => ?_
 refine pops_to rfl fun M hM => ?_
 simp only [pop, St.eval, constSlot, upd_at, Nat.reduceEqDiff, if_true, if_false, popBox, popBoxRo, slotCells, featPV]
 refine .inr ⟨Nat.succ_pos _, hM _ _ ?_⟩
 clear hM M
 refine pops_mv (.inr rfl) rfl (by simp only [St.eval, constSlot] <;> rfl) ?_
 refine pops_mv (.inr rfl) rfl (by simp only [St.eval, constSlot] <;> rfl) ?_
 refine pops_done (hR2 _ ?_)
 clear hR2 R2
 try simp only [thenK, scopeK]
 refine hN1 _ ?_
 clear hN1 N1
 refine pwp_then fun N3 hN3 => ?_
 refine pwp_then fun N4 hN4 => ?_
 refine pwp_reg fun R5 hR5 => ?_
 refine pops_to rfl fun M hM => ?_
 simp only [pop, St.eval, constSlot, upd_at, Nat.reduceEqDiff, if_true, if_false, List.length_cons, List.length_nil, Nat.zero_add, Nat.reduceAdd, Nat.reduceLeDiff, List.take_zero, List.take_succ_cons, List.take_nil, List.drop_succ_cons, List.drop_zero, List.drop_nil, List.nil_append, List.cons_append, List.append_nil, and_self, List.getElem?_cons_zero, List.getElem?_cons_succ, List.set_cons_zero, List.set_cons_succ, Option.some.injEq, popLoad, loadK, isAggD, List.drop_zero, List.getElem?_toArray, List.getElem?_cons_zero, List.getElem?_cons_succ, Bool.false_eq_true, Tryz.underlying23, sz23, eq_self, true_and, and_true, featPV]
 refine hM _ _ ?_
 clear hM M
 refine pops_to rfl fun M hM => ?_
 simp only [pop, St.eval, constSlot, upd_at, Nat.reduceEqDiff, if_true, if_false, popCall, List.toList_toArray, List.map_cons, List.map_nil, svs, List.mapM_cons, List.mapM_nil, Option.bind_eq_bind, Option.bind_some, Option.pure_def, List.append_nil, List.cons_append, List.nil_append, str_size, featPV]
 refine PFun.use (checkFeat_fun W0 x hf) fun h1 s1 => hM _ _ ?_
 replace s1 := Same.trans (Same.refl _) s1
 clear hM M
 refine pops_mv (.inr rfl) rfl (by simp only [St.eval, upd_at, Nat.reduceEqDiff, if_true, if_false, featPV] <;> rfl) ?_
 refine pops_done (hR5 _ ?_)
 clear hR5 R5
 try simp only [thenK, scopeK]
 refine hN4 _ ?_
 clear hN4 N4
 refine pwp_then fun N6 hN6 => ?_
 refine pwp_reg fun R7 hR7 => ?_
 refine pops_mv (.inl rfl) rfl (by simp only [St.eval, upd_at, Nat.reduceEqDiff, if_true, if_false, featPV] <;> rfl) ?_
 refine pops_to rfl fun M hM => ?_
 simp only [pop, St.eval, constSlot, upd_at, Nat.reduceEqDiff, if_true, if_false, popBin, binK, intK, strK, eqK, Tryz.underlying27, isPtr, eq_self, true_and, and_true, featPV]
 refine hM _ _ ?_
 clear hM M
 refine pops_done (hR7 _ ?_)
 clear hR7 R7
 try simp only [thenK, scopeK]
 refine hN6 _ ?_
 clear hN6 N6
 refine pwp_cond (by simp only [St.eval, upd_at, Nat.reduceEqDiff, if_true, if_false, featPV] <;> rfl) (fun c14 => ?_) (fun c14 => ?_)
 ·skip
  have hne : featE x ≠ 0 := by simpa using c14
  have hE : newE x l = featE x := by rw [newE, if_pos hne]
  have hP : newQ x (featE x) = .val (.pointer none) := by rw [newQ, if_neg hne]
  refine pwp_then fun N8 hN8 => ?_
  refine pwp_reg fun R9 hR9 => ?_
  refine pops_mv (.inl rfl) rfl (by simp only [St.eval, upd_at, Nat.reduceEqDiff, if_true, if_false, featPV] <;> rfl) ?_
  refine pops_mv (.inr rfl) rfl (by simp only [St.eval, constSlot] <;> rfl) ?_
  refine pops_mv (.inr rfl) rfl (by simp only [St.eval, upd_at, Nat.reduceEqDiff, if_true, if_false, featPV] <;> rfl) ?_
  refine pops_done (hR9 _ ?_)
  clear hR9 R9
  try simp only [thenK, scopeK]
  refine hN8 _ ?_
  clear hN8 N8
  refine pwp_ret ?_
  simp only [thenK, blockK, scopeK, bodyK]
  clear hN3 N3
  exact ⟨_, rfl, by rw [hE, hP]; exact endKeeps2 (Same.keeps s1) rfl⟩
 ·skip
  have h00 : featE x = 0 := by simpa using c14
  have hE : newE x l = faultsE l := by rw [newE, if_neg (by rw [h00]; simp)]
  refine pwp_skip ?_
  try simp only [thenK, scopeK]
  refine hN3 _ ?_
  clear hN3 N3
  refine pwp_then fun N10 hN10 => ?_
  refine pwp_then fun N11 hN11 => ?_
  refine pwp_reg fun R12 hR12 => ?_
  refine pops_mv (.inl rfl) rfl (by simp only [St.eval, upd_at, Nat.reduceEqDiff, if_true, if_false, featPV] <;> rfl) ?_
  refine pops_to rfl fun M hM => ?_
  simp only [pop, St.eval, constSlot, upd_at, Nat.reduceEqDiff, if_true, if_false, popBin, binK, intK, strK, eqK, Tryz.underlying30, isPtr, eq_self, true_and, and_true, featPV]
  refine hM _ _ ?_
  clear hM M
  refine pops_done (hR12 _ ?_)
  clear hR12 R12
  try simp only [thenK, scopeK]
  refine hN11 _ ?_
  clear hN11 N11
  refine pwp_cond_false (by simp only [St.eval, upd_at, Nat.reduceEqDiff, if_true, if_false, featPV] <;> rfl) ?_
  refine pwp_skip ?_
  try simp only [thenK, scopeK]
  refine hN10 _ ?_
  clear hN10 N10
  refine pwp_then fun N13 hN13 => ?_
  refine pwp_dreg 9 mixed (by decide +kernel) fun R14 hR14 => ?_
  simp only [List.take_succ_cons, List.take_zero, List.drop_succ_cons, List.drop_zero]
  apply lex_to
  · rfl
  ·intro h' s' M hM
   simp only [pop, St.eval, constSlot, upd_at, Nat.reduceEqDiff, if_true, if_false, List.length_cons, List.length_nil, Nat.zero_add, Nat.reduceAdd, Nat.reduceLeDiff, List.take_zero, List.take_succ_cons, List.take_nil, List.drop_succ_cons, List.drop_zero, List.drop_nil, List.nil_append, List.cons_append, List.append_nil, and_self, List.getElem?_cons_zero, List.getElem?_cons_succ, List.set_cons_zero, List.set_cons_succ, Option.some.injEq, popLoad, loadK, isAggD, List.drop_zero, List.getElem?_toArray, List.getElem?_cons_zero, List.getElem?_cons_succ, Bool.false_eq_true, Tryz.underlying23, sz23, eq_self, true_and, and_true, featPV, s'.1]
   exact hM _ (.refl _)
  apply lex_to
  · rfl
  ·intro h' s' M hM
   simp only [pop, St.eval, constSlot, upd_at, Nat.reduceEqDiff, if_true, if_false, eq_self, true_and, and_true, str_list, str_size, str_app, str_cut, str_get, featPV, s'.1]
   exact hM _ (.refl _)
  apply lex_to
  · rfl
  ·intro h' s' M hM
   simp only [pop, St.eval, constSlot, upd_at, Nat.reduceEqDiff, if_true, if_false, eq_self, true_and, and_true, str_list, str_size, str_app, str_cut, str_get, featPV, s'.1]
   exact hM _ (.refl _)
  apply lex_to
  · rfl
  ·intro h' s' M hM
   simp only [pop, St.eval, constSlot, upd_at, Nat.reduceEqDiff, if_true, if_false, fillP, slotCells, splice, List.toList_toArray, List.map_cons, List.map_nil, List.length_cons, List.length_nil, Nat.zero_add, Nat.reduceAdd, Nat.reduceLeDiff, List.take_zero, List.take_succ_cons, List.take_nil, List.drop_succ_cons, List.drop_zero, List.drop_nil, List.nil_append, List.cons_append, List.append_nil, and_self, List.getElem?_cons_zero, List.getElem?_cons_succ, List.set_cons_zero, List.set_cons_succ, Option.some.injEq, bd172, eq_self, true_and, and_true, str_list, str_size, str_app, str_cut, str_get, featPV, s'.1]
   exact hM _ (.refl _)
  apply lex_to
  · rfl
  ·intro h' s' M hM
   simp only [pop, St.eval, constSlot, upd_at, Nat.reduceEqDiff, if_true, if_false, popBox, popBoxRo, slotCells, featPV, s'.1]
   exact .inr ⟨Nat.succ_pos _, hM _ (.refl _)⟩
  apply lex_toW
  · rfl
  ·intro h' s' M hM
   simp only [pop, St.eval, constSlot, upd_at, Nat.reduceEqDiff, if_true, if_false, featPV]
   exact make_ro (h0 := h) (n := 14) (hpOk.same hb (Same.trans s1 s')) Tryz.underlying54 sz3 by3 ze3 rfl (by kernel_rfl) (by decide) (by decide) (by decide) hM
  apply lex_to
  · rfl
  ·intro h' s' M hM
   simp only [pop, St.eval, constSlot, upd_at, Nat.reduceEqDiff, if_true, if_false, eq_self, true_and, and_true, str_list, str_size, str_app, str_cut, str_get, featPV, s'.1]
   exact hM _ (.refl _)
  apply lex_to
  · rfl
  ·intro h' s' M hM
   simp only [pop, St.eval, constSlot, upd_at, Nat.reduceEqDiff, if_true, if_false, eq_self, true_and, and_true, str_list, str_size, str_app, str_cut, str_get, featPV, s'.1]
   exact hM _ (.refl _)
  apply lex_to
  · rfl
  ·intro h' s' M hM
   simp only [pop, St.eval, constSlot, upd_at, Nat.reduceEqDiff, if_true, if_false, fillP, slotCells, splice, List.toList_toArray, List.map_cons, List.map_nil, List.length_cons, List.length_nil, Nat.zero_add, Nat.reduceAdd, Nat.reduceLeDiff, List.take_zero, List.take_succ_cons, List.take_nil, List.drop_succ_cons, List.drop_zero, List.drop_nil, List.nil_append, List.cons_append, List.append_nil, and_self, List.getElem?_cons_zero, List.getElem?_cons_succ, List.set_cons_zero, List.set_cons_succ, Option.some.injEq, bd177, eq_self, true_and, and_true, str_list, str_size, str_app, str_cut, str_get, featPV, s'.1]
   exact hM _ (.refl _)
  refine lex_done fun hq sq => ?_
  replace sq := Same.trans s1 sq
  refine pops_to rfl fun M hM => ?_
  simp only [pop, St.eval, constSlot, upd_at, Nat.reduceEqDiff, if_true, if_false, popBox, popBoxRo, slotCells, featPV]
  refine .inl ?_
  refine ⟨by exact Nat.succ_pos _, fun id hid => hM _ _ ?_⟩
  have hid' : h.lim ≤ id := Nat.le_trans (Same.keeps sq).2 hid
  have hS27 : Same h _ := sq
  clear hM M
  refine pops_mv (.inr rfl) rfl (by simp only [St.eval, upd_at, Nat.reduceEqDiff, if_true, if_false, featPV] <;> rfl) ?_
  refine pops_done (hR14 _ ?_)
  clear hR14 R14
  try simp only [thenK, scopeK]
  refine hN13 _ ?_
  clear hN13 N13
  refine pwp_then fun N15 hN15 => ?_
  refine pwp_then fun N16 hN16 => ?_
  refine pwp_reg fun R17 hR17 => ?_
  refine pops_mv (.inl rfl) rfl (by simp only [St.eval, upd_at, Nat.reduceEqDiff, if_true, if_false, featPV] <;> rfl) ?_
  refine pops_mv (.inl rfl) rfl (by simp only [St.eval, upd_at, Nat.reduceEqDiff, if_true, if_false, featPV] <;> rfl) ?_
  refine pops_to rfl fun M hM => ?_
  simp only [pop, St.eval, constSlot, upd_at, Nat.reduceEqDiff, if_true, if_false, popCall, List.toList_toArray, List.map_cons, List.map_nil, svs, List.mapM_cons, List.mapM_nil, Option.bind_eq_bind, Option.bind_some, Option.pure_def, List.append_nil, List.cons_append, List.nil_append, str_size, featPV]
  refine (plan_fun W0 full l hn id _ _ rfl (blk_new _ _ _)).mono ?_
  rintro _ h9 ⟨rfl, cells9, hcl9, htk9, hc9, hk9⟩
  replace hk9 := keeps_pass hb hid' ((Same.keeps hS27).trans (.new (hpOk.same hb hS27) hid)) hk9
  refine hM _ _ ?_
  clear hM M
  refine pops_mv (.inr rfl) rfl (by simp only [St.eval, upd_at, Nat.reduceEqDiff, if_true, if_false, featPV] <;> rfl) ?_
  refine pops_done (hR17 _ ?_)
  clear hR17 R17
  try simp only [thenK, scopeK]
  refine hN16 _ ?_
  clear hN16 N16
  refine pwp_then fun N18 hN18 => ?_
  refine pwp_reg fun R19 hR19 => ?_
  refine pops_mv (.inl rfl) rfl (by simp only [St.eval, upd_at, Nat.reduceEqDiff, if_true, if_false, featPV] <;> rfl) ?_
  refine pops_to rfl fun M hM => ?_
  simp only [pop, St.eval, constSlot, upd_at, Nat.reduceEqDiff, if_true, if_false, popBin, binK, intK, strK, eqK, Tryz.underlying27, isPtr, eq_self, true_and, and_true, featPV]
  refine hM _ _ ?_
  clear hM M
  refine pops_done (hR19 _ ?_)
  clear hR19 R19
  try simp only [thenK, scopeK]
  refine hN18 _ ?_
  clear hN18 N18
  refine pwp_cond (by simp only [St.eval, upd_at, Nat.reduceEqDiff, if_true, if_false, featPV] <;> rfl) (fun c32 => ?_) (fun c32 => ?_)
  ·skip
   have hne : faultsE l ≠ 0 := by simpa using c32
   have hP : newQ x (faultsE l) = .val (.pointer none) := by rw [newQ, if_neg hne]
   refine pwp_then fun N20 hN20 => ?_
   refine pwp_reg fun R21 hR21 => ?_
   refine pops_mv (.inl rfl) rfl (by simp only [St.eval, upd_at, Nat.reduceEqDiff, if_true, if_false, featPV] <;> rfl) ?_
   refine pops_mv (.inr rfl) rfl (by simp only [St.eval, constSlot] <;> rfl) ?_
   refine pops_mv (.inr rfl) rfl (by simp only [St.eval, upd_at, Nat.reduceEqDiff, if_true, if_false, featPV] <;> rfl) ?_
   refine pops_done (hR21 _ ?_)
   clear hR21 R21
   try simp only [thenK, scopeK]
   refine hN20 _ ?_
   clear hN20 N20
   refine pwp_ret ?_
   simp only [thenK, blockK, scopeK, bodyK]
   clear hN15 N15
   exact ⟨_, rfl, by rw [hE, hP]; exact endKeeps2 hk9 rfl⟩
  ·skip
   have hz : faultsE l = 0 := by simpa using c32
   refine pwp_skip ?_
   try simp only [thenK, scopeK]
   refine hN15 _ ?_
   clear hN15 N15
   refine pwp_then fun N22 hN22 => ?_
   refine pwp_reg fun R23 hR23 => ?_
   refine pops_mv (.inl rfl) rfl (by simp only [St.eval, upd_at, Nat.reduceEqDiff, if_true, if_false, featPV] <;> rfl) ?_
   refine pops_mv (.inr rfl) rfl (by simp only [St.eval, upd_at, Nat.reduceEqDiff, if_true, if_false, featPV] <;> rfl) ?_
   refine pops_mv (.inr rfl) rfl (by simp only [St.eval, constSlot] <;> rfl) ?_
   refine pops_done (hR23 _ ?_)
   clear hR23 R23
   try simp only [thenK, scopeK]
   refine hN22 _ ?_
   clear hN22 N22
   refine pwp_ret ?_
   simp only [thenK, blockK, scopeK, bodyK]
   exact ⟨_, rfl, by rw [hE, hz, show newQ x 0 = .rop (List.take 9 cells9) by rw [htk9]; rfl]; exact endPtrC (k := 9) rfl hc9 hb hid' hk9⟩
end Go.Pw
