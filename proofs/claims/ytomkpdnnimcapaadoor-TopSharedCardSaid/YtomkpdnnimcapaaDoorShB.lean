import Derived.Test.YtomkpdnnimcapaaDoorShA
namespace Go.Pw
open Go Go.RowKit Go.Proofs
set_option maxRecDepth 100000
set_option linter.unusedSimpArgs false
set_option linter.unusedVariables false
theorem by5 : bytesOf' Tryd.prog 5 = some 1 := by kernel_rfl
theorem sz3 : szOf Tryd.prog 3 = some 1 := by kernel_rfl
theorem sz5 : szOf Tryd.prog 5 = some 1 := by kernel_rfl
theorem sz30 : szOf Tryd.prog 30 = some 2 := by kernel_rfl
theorem ze5 : zeroOf Tryd.prog 5 = some (.int .u8 0) := by kernel_rfl
theorem ze30 : zeroOf Tryd.prog 30 = some (.agg #[(.int .i64 0), (.string ⟨#[]⟩)]) := by kernel_rfl
theorem row_make {P : Program} {h0 hc : Hp} {t e : TypeId} {sz by_ : Nat} {z : Value} {n : Nat} {N : Slot → Hp → Prop} (hb0 : hpOk h0) (ht : P.underlying t = some (.slice e)) (hz : szOf P e = some sz) (hby : bytesOf' P e = some by_) (hze : zeroOf P e = some z) (hzc : z.cells.size = sz) (hza : z.cells.all (·.oneCell') = true) (hpos : 0 < sz)
    (K : Keeps h0 hc) (hl : (by_ : Int) * (n : Int) ≤ 281474976710656) (hn : n ≤ 9223372036854775807) (H : ∀ sl hp', RowIs e sz h0 hp' sl (List.replicate n (zeroCells' z)) → Keeps h0 hp' → N sl hp') :
    popMakeSlice P t (.sv (.one (.val (.int .i64 (n : Int))))) (.sv (.one (.val (.int .i64 (n : Int))))) hc N := by
  unfold popMakeSlice
  simp only [ht, hz, hze, hby]
  refine ⟨hpos, hzc, hza, Int.natCast_nonneg _, Int.le_refl _, hl, by omega, fun id hid => ?_⟩
  rw [Int.toNat_natCast]
  refine H _ _ (.inr ⟨id, 0, List.replicate n (zeroCells' z), by simp, Nat.le_trans K.2 hid, blk_new _ _ _, List.take_length⟩) ⟨fun j b hj => ?_, ?_⟩
  · have := hb0 j b hj
    simp only [Hp.new]
    rw [if_neg (by have := K.2; omega)]
    exact K.1 j b hj
  · have := K.2; simp only [Hp.new]; omega

abbrev shPV (x : UInt8 × List UInt8) : List PV := [.val (.int .i64 (x.1.toNat : Int)), pstr x.2]
abbrev xsOf (l : List (UInt8 × List UInt8)) : List UInt8 := l.map (·.1)
def wts (z : UInt8) (l : List (UInt8 × List UInt8)) : List UInt8 := l.map fun x => Gf.wt z x.1 (xsOf l)
theorem u8_id (c : UInt8) : IntKind.u8.wrap (c.toNat : Int) = (c.toNat : Int) := u8_wrap c.toNat_lt
theorem set_byte (ws : List UInt8) (i : Nat) (w0 c : UInt8) : (ws.map byteCell).set i (splice (byteCell w0) 0 [pbyte c]) = (ws.set i c).map byteCell := by
  rw [List.map_set]; rfl
theorem fill_bytes (n : Nat) : List.replicate n (zeroCells' (.int .u8 0)) = (List.replicate n (0 : UInt8)).map byteCell := by rw [List.map_replicate]; rfl
theorem ElAt.same {e : TypeId} {sz : Nat} {h0 hp hq : Hp} {sl : Slot} {xs : List (List PV)} {i id ver : Nat} {es : List (List PV)} (E : ElAt e sz h0 hp sl xs i id ver es) (s : Same hp hq) : ElAt e sz h0 hq sl xs i id ver es :=
  ⟨E.sl, E.lim, by rw [s.1]; exact E.blk, E.tk, E.lt⟩
theorem wt_snoc (z x k : UInt8) : ∀ l : List UInt8, Gf.wt z x (l ++ [k]) = if k = x then Gf.wt z x l else Gf.gm (Gf.wt z x l) (Gf.qf z x k)
  | [] => by simp [Gf.wt, Gf.gm_1l, Gf.gm_1r]
  | a :: l => by
    simp only [List.cons_append, Gf.wt]
    rw [wt_snoc z x k l]
    by_cases h : a = x
    · rw [if_pos h, if_pos h]
    · rw [if_neg h, if_neg h]
      split
      · rfl
      · rw [Gf.gm_assoc]
theorem nodup_at {l : List (UInt8 × List UInt8)} (hd : (xsOf l).Nodup) {i k : Nat} {x y : UInt8 × List UInt8} (hx : l[i]? = some x) (hy : l[k]? = some y) (h : y.1 = x.1) : k = i := by
  have e1 : (xsOf l)[i]? = some x.1 := by rw [List.getElem?_map, hx]; rfl
  have e2 : (xsOf l)[k]? = some x.1 := by rw [List.getElem?_map, hy, ← h]; rfl
  have l1 := (List.getElem?_eq_some_iff.1 e1).1
  have l2 := (List.getElem?_eq_some_iff.1 e2).1
  exact (List.getElem?_inj l2 hd).1 (e2.trans e1.symm)
theorem take_snoc {l : List (UInt8 × List UInt8)} {k : Nat} {y : UInt8 × List UInt8} (hy : l[k]? = some y) : xsOf (l.take (k + 1)) = xsOf (l.take k) ++ [y.1] := by
  rw [List.take_add_one, hy]; simp
theorem wts_all {z : UInt8} {l : List (UInt8 × List UInt8)} {ws : List UInt8} (hl : ws.length = l.length) (h : ∀ j, j < l.length → ws[j]? = (wts z l)[j]?) : ws = wts z l := by
  apply List.ext_getElem?
  intro j
  rcases Nat.lt_or_ge j l.length with hj | hj
  · exact h j hj
  · rw [List.getElem?_eq_none (by omega), List.getElem?_eq_none (by rw [wts, List.length_map]; omega)]
theorem wts_at {z : UInt8} {l : List (UInt8 × List UInt8)} {i : Nat} {x : UInt8 × List UInt8} (hx : l[i]? = some x) : (wts z l)[i]? = some (Gf.wt z x.1 (xsOf l)) := by rw [wts, List.getElem?_map, hx]; rfl
theorem nm14 : (Tryd.f14.name == "runtime.NumGoroutine") = false := by kernel_rfl
set_option maxHeartbeats 2000000 in
theorem weights_fun (W0 : World) (full : Bool) (l : List (UInt8 × List UInt8)) (z : UInt8) (hn : l.length ≤ 255) (hd : (xsOf l).Nodup) :
  PFun Tryd.prog W0 14 [.one (.ro full 2 (l.map shPV)), .one (pbyte z)] (.sv (.one (.ro false 1 ((wts z l).map byteCell)))) := by
 intro h
 refine pcalls2 (n := 58) Tryd.func14 rfl nm14 rfl fun hb => ?_
 refine pwp_then fun N1 hN1 => ?_
 refine pwp_reg fun R2 hR2 => ?_
 refine pops_mv (.inr rfl) rfl (by simp only [St.eval, constSlot] <;> rfl) ?_
 refine pops_done (hR2 _ ?_)
 clear hR2 R2
 try simp only [thenK, scopeK]
 refine hN1 _ ?_
 clear hN1 N1
 refine pwp_then fun N3 hN3 => ?_
 refine pwp_reg fun R4 hR4 => ?_
 refine pops_mv (.inl rfl) rfl (by simp only [St.eval, upd_at, Nat.reduceEqDiff, if_true, if_false, shPV] <;> rfl) ?_
 refine pops_to rfl fun M hM => ?_
 simp only [pop, St.eval, constSlot, upd_at, Nat.reduceEqDiff, if_true, if_false, popCall, List.toList_toArray, List.map_cons, List.map_nil, popBuiltin, popLen, lenOfSlot, List.length_map, Tryd.underlying25, eq_self, true_and, and_true, str_list, str_size, str_app, str_cut, str_get, shPV, List.length_map]
 refine hM _ _ ?_
 clear hM M
 refine pops_to rfl fun M hM => ?_
 simp only [pop, St.eval, constSlot, upd_at, Nat.reduceEqDiff, if_true, if_false, eq_self, true_and, and_true, str_list, str_size, str_app, str_cut, str_get, shPV]
 refine row_make hb Tryd.underlying36 sz5 by5 ze5 rfl (by kernel_rfl) Nat.one_pos (Same.keeps (Same.refl _)) (by omega) (by omega) fun rw1 hp1 ho1 hk1 => hM _ _ ?_
 rw [fill_bytes] at ho1
 clear hM M
 refine pops_mv (.inr rfl) rfl (by simp only [St.eval, upd_at, Nat.reduceEqDiff, if_true, if_false, shPV] <;> rfl) ?_
 refine pops_done (hR4 _ ?_)
 clear hR4 R4
 try simp only [thenK, scopeK]
 refine hN3 _ ?_
 clear hN3 N3
 refine pwp_then fun N5 hN5 => ?_
 refine pwp_then fun N6 hN6 => ?_
 refine pwp_reg fun R7 hR7 => ?_
 refine pops_mv (.inl rfl) rfl (by simp only [St.eval, upd_at, Nat.reduceEqDiff, if_true, if_false, shPV] <;> rfl) ?_
 refine pops_to rfl fun M hM => ?_
 simp only [pop, St.eval, constSlot, upd_at, Nat.reduceEqDiff, if_true, if_false, popCall, List.toList_toArray, List.map_cons, List.map_nil, popBuiltin, popLen, lenOfSlot, List.length_map, Tryd.underlying25, eq_self, true_and, and_true, str_list, str_size, str_app, str_cut, str_get, shPV, List.length_map]
 refine hM _ _ ?_
 clear hM M
 refine pops_mv (.inl rfl) rfl (by simp only [St.eval, constSlot] <;> rfl) ?_
 refine pops_done (hR7 _ ?_)
 clear hR7 R7
 try simp only [thenK, scopeK]
 refine hN6 _ ?_
 clear hN6 N6
 refine pwp_block ?_
 refine pwp_loop (fun k σ => ∃ (i : Nat), ∃ (sl : Slot), ∃ (ws : List UInt8), (k = l.length - i) ∧ (i ≤ l.length) ∧ (ws.length = l.length) ∧ (∀ j, j < i → ws[j]? = (wts z l)[j]?) ∧ (Keeps h σ.hp ∧ RowIs 5 1 h σ.hp sl (ws.map byteCell)) ∧ (σ.env 0 = .sv (.one (.ro full 2 (l.map shPV)))) ∧ (σ.env 1 = .sv (.one (pbyte z))) ∧ (σ.env 5 = sl) ∧ (σ.env 13 = .sv (.one (.ro full 2 (l.map shPV)))) ∧ (σ.env 14 = .sv (.one (pint (l.length : Nat)))) ∧ (σ.env 15 = .sv (.one (pint (i : Nat))))) _ ⟨_, .refl _ _, 0, rw1, (List.replicate l.length 0), rfl, ?_⟩ ?_
 · exact ⟨Nat.zero_le _, by simp, fun j hj => absurd hj (by omega), ⟨hk1.trans (Same.keeps (Same.refl _)), ho1.same (Same.refl _)⟩, by simp only [upd_at, Nat.reduceEqDiff, if_true, if_false, shPV], by simp only [upd_at, Nat.reduceEqDiff, if_true, if_false, shPV], by simp only [upd_at, Nat.reduceEqDiff, if_true, if_false, shPV], by simp only [upd_at, Nat.reduceEqDiff, if_true, if_false, shPV], by simp only [upd_at, Nat.reduceEqDiff, if_true, if_false, shPV], by first | rfl | (simp only [upd_at, Nat.reduceEqDiff, if_true, if_false]; rfl)⟩
 ·rintro k ⟨e, hp0⟩ ⟨i, sl, ws, hk0, hx0_0, hx0_1, hx0_2, sl0, e0_0, e0_1, e0_5, e0_13, e0_14, e0_15⟩
  simp only at sl0 e0_0 e0_1 e0_5 e0_13 e0_14 e0_15
  obtain ⟨hKa, ho⟩ := sl0
  refine pwp_hpok fun hok0 => ?_
  simp only at hok0
  refine pwp_then fun N8 hN8 => ?_
  refine pwp_reg fun R9 hR9 => ?_
  refine pops_to rfl fun M hM => ?_
  simp only [pop, St.eval, constSlot, upd_at, Nat.reduceEqDiff, if_true, if_false, popBin, binK, intK, strK, eqK, eq_self, true_and, and_true, e0_0, e0_1, e0_5, e0_13, e0_14, e0_15, shPV]
  refine hM _ _ ?_
  clear hM M
  refine pops_done (hR9 _ ?_)
  clear hR9 R9
  try simp only [thenK, scopeK]
  refine hN8 _ ?_
  clear hN8 N8
  refine pwp_then fun N10 hN10 => ?_
  refine pwp_cond (by simp only [St.eval, upd_at, Nat.reduceEqDiff, if_true, if_false, e0_0, e0_1, e0_5, e0_13, e0_14, e0_15, shPV] <;> rfl) (fun c16 => ?_) (fun c16 => ?_)
  ·skip
   have hi : i < l.length := by have := of_decide_eq_true c16; omega
   obtain ⟨x, hx⟩ : ∃ x, l[i]? = some x := ⟨_, List.getElem?_eq_getElem (by omega)⟩
   have hgx : (l.map shPV)[i]? = some [.val (.int .i64 (x.1.toNat : Int)), pstr x.2] := by simp only [List.getElem?_map, hx, Option.map_some]
   obtain ⟨w0, hw0⟩ : ∃ w0, ws[i]? = some w0 := ⟨_, List.getElem?_eq_getElem (by omega)⟩
   refine pwp_skip ?_
   try simp only [thenK, scopeK]
   refine hN10 _ ?_
   clear hN10 N10
   refine pwp_then fun N11 hN11 => ?_
   refine pwp_block ?_
   refine pwp_then fun N12 hN12 => ?_
   refine pwp_reg fun R13 hR13 => ?_
   refine pops_mv (.inl rfl) rfl (by simp only [St.eval, upd_at, Nat.reduceEqDiff, if_true, if_false, e0_0, e0_1, e0_5, e0_13, e0_14, e0_15, shPV] <;> rfl) ?_
   refine pops_to rfl fun M hM => ?_
   simp only [pop, St.eval, constSlot, upd_at, Nat.reduceEqDiff, if_true, if_false, popIndexAddr, Tryd.underlying25, sz30, eq_self, true_and, and_true, str_list, str_size, str_app, str_cut, str_get, e0_0, e0_1, e0_5, e0_13, e0_14, e0_15, shPV, hgx, Int.toNat_natCast]
   refine ⟨Int.natCast_nonneg _, hM _ _ ?_⟩
   clear hM M
   refine pops_to rfl fun M hM => ?_
   simp only [pop, St.eval, constSlot, upd_at, Nat.reduceEqDiff, if_true, if_false, List.length_cons, List.length_nil, Nat.zero_add, Nat.reduceAdd, Nat.reduceLeDiff, List.take_zero, List.take_succ_cons, List.take_nil, List.drop_succ_cons, List.drop_zero, List.drop_nil, List.nil_append, List.cons_append, List.append_nil, and_self, List.getElem?_cons_zero, List.getElem?_cons_succ, List.set_cons_zero, List.set_cons_succ, Option.some.injEq, popLoad, loadK, isAggD, List.drop_zero, List.getElem?_toArray, List.getElem?_cons_zero, List.getElem?_cons_succ, Bool.false_eq_true, Tryd.underlying30, sz30, eq_self, true_and, and_true, e0_0, e0_1, e0_5, e0_13, e0_14, e0_15, shPV]
   refine hM _ _ ?_
   clear hM M
   refine pops_valloc rfl ze30 (zs := [PV.val (.int .i64 0), PV.val (.string ⟨#[]⟩)]) (by kernel_rfl) (by exact Nat.succ_pos _) (fun id14 hid14 => ?_)
   refine pops_mv (.inr rfl) rfl (by simp only [St.eval, upd_at, Nat.reduceEqDiff, if_true, if_false, e0_0, e0_1, e0_5, e0_13, e0_14, e0_15, shPV] <;> rfl) ?_
   refine pops_vstore (zs := [PV.val (.int .i64 0), PV.val (.string ⟨#[]⟩)]) (hpOk.same hok0 (Same.refl _)) hid14 (by simp only [upd_at, Nat.reduceEqDiff, if_true, if_false, e0_0, e0_1, e0_5, e0_13, e0_14, e0_15, shPV]) (by simp only [St.eval, constSlot, slotCells, upd_at, Nat.reduceEqDiff, if_true, if_false, e0_0, e0_1, e0_5, e0_13, e0_14, e0_15, shPV] <;> rfl) (by rfl) (by rw [sz30]; rfl) (fun hv15 sv15 => ?_)
   refine pops_done (hR13 _ ?_)
   clear hR13 R13
   try simp only [thenK, scopeK]
   refine hN12 _ ?_
   clear hN12 N12
   refine pwp_then fun N16 hN16 => ?_
   refine pwp_reg fun R17 hR17 => ?_
   refine pops_mv (.inl rfl) rfl (by simp only [St.eval, upd_at, Nat.reduceEqDiff, if_true, if_false, e0_0, e0_1, e0_5, e0_13, e0_14, e0_15, shPV] <;> rfl) ?_
   refine pops_mv (.inl rfl) rfl (by simp only [St.eval, upd_at, Nat.reduceEqDiff, if_true, if_false, e0_0, e0_1, e0_5, e0_13, e0_14, e0_15, shPV] <;> rfl) ?_
   refine pops_to rfl fun M hM => ?_
   simp only [pop, St.eval, constSlot, upd_at, Nat.reduceEqDiff, if_true, if_false, eq_self, true_and, and_true, str_list, str_size, str_app, str_cut, str_get, e0_0, e0_1, e0_5, e0_13, e0_14, e0_15, shPV]
   refine row_at Tryd.underlying36 sz5 (ho.same sv15) rfl (by rw [List.length_map]; omega) fun id1 ver1 es1 E1 => hM _ _ ?_
   clear hM M
   refine pops_no fun M hM => ?_
   simp only [pop, St.eval, constSlot, upd_at, Nat.reduceEqDiff, if_true, if_false, eq_self, true_and, and_true, str_list, str_size, str_app, str_cut, str_get, e0_0, e0_1, e0_5, e0_13, e0_14, e0_15, shPV]
   refine el_store E1 hb (hKa.trans (Same.keeps sv15)) (c := byteCell w0) (by rw [List.getElem?_map, hw0]; rfl) rfl sz5 (Nat.le_refl 1) fun hp2 ho2 hk2 => hM _ _ ?_
   replace ho2 := (set_byte ws i w0 1) ▸ ho2
   clear hM M
   refine pops_done (hR17 _ ?_)
   clear hR17 R17
   try simp only [thenK, scopeK]
   refine hN16 _ ?_
   clear hN16 N16
   refine pwp_then fun N18 hN18 => ?_
   refine pwp_reg fun R19 hR19 => ?_
   refine pops_mv (.inl rfl) rfl (by simp only [St.eval, upd_at, Nat.reduceEqDiff, if_true, if_false, e0_0, e0_1, e0_5, e0_13, e0_14, e0_15, shPV] <;> rfl) ?_
   refine pops_to rfl fun M hM => ?_
   simp only [pop, St.eval, constSlot, upd_at, Nat.reduceEqDiff, if_true, if_false, popCall, List.toList_toArray, List.map_cons, List.map_nil, popBuiltin, popLen, lenOfSlot, List.length_map, Tryd.underlying25, eq_self, true_and, and_true, str_list, str_size, str_app, str_cut, str_get, e0_0, e0_1, e0_5, e0_13, e0_14, e0_15, shPV, List.length_map]
   refine hM _ _ ?_
   clear hM M
   refine pops_mv (.inl rfl) rfl (by simp only [St.eval, constSlot] <;> rfl) ?_
   refine pops_done (hR19 _ ?_)
   clear hR19 R19
   try simp only [thenK, scopeK]
   refine hN18 _ ?_
   clear hN18 N18
   refine pwp_block ?_
   refine pwp_loop (fun k σ => ∃ (q : Nat), ∃ (vs : List UInt8), (k = l.length - q) ∧ (q ≤ l.length) ∧ (vs.length = l.length) ∧ (vs[i]? = some (Gf.wt z x.1 (xsOf (l.take q)))) ∧ (∀ j, j < i → vs[j]? = (wts z l)[j]?) ∧ (Keeps h σ.hp ∧ RowIs 5 1 h σ.hp sl (vs.map byteCell)) ∧ (σ.env 0 = .sv (.one (.ro full 2 (l.map shPV)))) ∧ (σ.env 1 = .sv (.one (pbyte z))) ∧ (σ.env 5 = sl) ∧ (σ.env 6 = .sv (.one (pint (i : Nat)))) ∧ (σ.env 7 = .sv (.one (.rop (shPV x)))) ∧ (σ.env 13 = .sv (.one (.ro full 2 (l.map shPV)))) ∧ (σ.env 14 = .sv (.one (pint (l.length : Nat)))) ∧ (σ.env 15 = .sv (.one (pint (i : Nat)))) ∧ (σ.env 23 = .sv (.one (.ro full 2 (l.map shPV)))) ∧ (σ.env 24 = .sv (.one (pint (l.length : Nat)))) ∧ (σ.env 25 = .sv (.one (pint (q : Nat))))) _ ⟨_, .refl _ _, 0, (ws.set i 1), rfl, ?_⟩ ?_
   · exact ⟨Nat.zero_le _, by rw [List.length_set]; exact hx0_1, by rw [List.getElem?_set_self (by omega)]; rfl, fun j hj => by rw [List.getElem?_set_ne (by omega)]; exact hx0_2 j hj, ⟨hk2.trans (Same.keeps (Same.refl _)), ho2.same (Same.refl _)⟩, by simp only [upd_at, Nat.reduceEqDiff, if_true, if_false, e0_0, e0_1, e0_5, e0_13, e0_14, e0_15, shPV], by simp only [upd_at, Nat.reduceEqDiff, if_true, if_false, e0_0, e0_1, e0_5, e0_13, e0_14, e0_15, shPV], by simp only [upd_at, Nat.reduceEqDiff, if_true, if_false, e0_0, e0_1, e0_5, e0_13, e0_14, e0_15, shPV], by simp only [upd_at, Nat.reduceEqDiff, if_true, if_false, e0_0, e0_1, e0_5, e0_13, e0_14, e0_15, shPV], by simp only [upd_at, Nat.reduceEqDiff, if_true, if_false, e0_0, e0_1, e0_5, e0_13, e0_14, e0_15, shPV], by simp only [upd_at, Nat.reduceEqDiff, if_true, if_false, e0_0, e0_1, e0_5, e0_13, e0_14, e0_15, shPV], by simp only [upd_at, Nat.reduceEqDiff, if_true, if_false, e0_0, e0_1, e0_5, e0_13, e0_14, e0_15, shPV], by simp only [upd_at, Nat.reduceEqDiff, if_true, if_false, e0_0, e0_1, e0_5, e0_13, e0_14, e0_15, shPV], by simp only [upd_at, Nat.reduceEqDiff, if_true, if_false, e0_0, e0_1, e0_5, e0_13, e0_14, e0_15, shPV], by simp only [upd_at, Nat.reduceEqDiff, if_true, if_false, e0_0, e0_1, e0_5, e0_13, e0_14, e0_15, shPV], by first | rfl | (simp only [upd_at, Nat.reduceEqDiff, if_true, if_false]; rfl)⟩
   ·rintro k ⟨e, hp1⟩ ⟨q, vs, hk1, hx1_0, hx1_1, hx1_2, hx1_3, sl1, e1_0, e1_1, e1_5, e1_6, e1_7, e1_13, e1_14, e1_15, e1_23, e1_24, e1_25⟩
    simp only at sl1 e1_0 e1_1 e1_5 e1_6 e1_7 e1_13 e1_14 e1_15 e1_23 e1_24 e1_25
    obtain ⟨hKb, ho4⟩ := sl1
    refine pwp_hpok fun hok1 => ?_
    simp only at hok1
    refine pwp_then fun N20 hN20 => ?_
    refine pwp_reg fun R21 hR21 => ?_
    refine pops_to rfl fun M hM => ?_
    simp only [pop, St.eval, constSlot, upd_at, Nat.reduceEqDiff, if_true, if_false, popBin, binK, intK, strK, eqK, eq_self, true_and, and_true, e1_0, e1_1, e1_5, e1_6, e1_7, e1_13, e1_14, e1_15, e1_23, e1_24, e1_25, shPV]
    refine hM _ _ ?_
    clear hM M
    refine pops_done (hR21 _ ?_)
    clear hR21 R21
    try simp only [thenK, scopeK]
    refine hN20 _ ?_
    clear hN20 N20
    refine pwp_then fun N22 hN22 => ?_
    refine pwp_cond (by simp only [St.eval, upd_at, Nat.reduceEqDiff, if_true, if_false, e1_0, e1_1, e1_5, e1_6, e1_7, e1_13, e1_14, e1_15, e1_23, e1_24, e1_25, shPV] <;> rfl) (fun c26 => ?_) (fun c26 => ?_)
    ·skip
     have hk : q < l.length := by have := of_decide_eq_true c26; omega
     obtain ⟨y, hy⟩ : ∃ x, l[q]? = some x := ⟨_, List.getElem?_eq_getElem (by omega)⟩
     have hgy : (l.map shPV)[q]? = some [.val (.int .i64 (y.1.toNat : Int)), pstr y.2] := by simp only [List.getElem?_map, hy, Option.map_some]
     refine pwp_skip ?_
     try simp only [thenK, scopeK]
     refine hN22 _ ?_
     clear hN22 N22
     refine pwp_then fun N23 hN23 => ?_
     refine pwp_block ?_
     refine pwp_then fun N24 hN24 => ?_
     refine pwp_reg fun R25 hR25 => ?_
     refine pops_mv (.inl rfl) rfl (by simp only [St.eval, upd_at, Nat.reduceEqDiff, if_true, if_false, e1_0, e1_1, e1_5, e1_6, e1_7, e1_13, e1_14, e1_15, e1_23, e1_24, e1_25, shPV] <;> rfl) ?_
     refine pops_to rfl fun M hM => ?_
     simp only [pop, St.eval, constSlot, upd_at, Nat.reduceEqDiff, if_true, if_false, popIndexAddr, Tryd.underlying25, sz30, eq_self, true_and, and_true, str_list, str_size, str_app, str_cut, str_get, e1_0, e1_1, e1_5, e1_6, e1_7, e1_13, e1_14, e1_15, e1_23, e1_24, e1_25, shPV, hgy, Int.toNat_natCast]
     refine ⟨Int.natCast_nonneg _, hM _ _ ?_⟩
     clear hM M
     refine pops_to rfl fun M hM => ?_
     simp only [pop, St.eval, constSlot, upd_at, Nat.reduceEqDiff, if_true, if_false, List.length_cons, List.length_nil, Nat.zero_add, Nat.reduceAdd, Nat.reduceLeDiff, List.take_zero, List.take_succ_cons, List.take_nil, List.drop_succ_cons, List.drop_zero, List.drop_nil, List.nil_append, List.cons_append, List.append_nil, and_self, List.getElem?_cons_zero, List.getElem?_cons_succ, List.set_cons_zero, List.set_cons_succ, Option.some.injEq, popLoad, loadK, isAggD, List.drop_zero, List.getElem?_toArray, List.getElem?_cons_zero, List.getElem?_cons_succ, Bool.false_eq_true, Tryd.underlying30, sz30, eq_self, true_and, and_true, e1_0, e1_1, e1_5, e1_6, e1_7, e1_13, e1_14, e1_15, e1_23, e1_24, e1_25, shPV]
     refine hM _ _ ?_
     clear hM M
     refine pops_valloc rfl ze30 (zs := [PV.val (.int .i64 0), PV.val (.string ⟨#[]⟩)]) (by kernel_rfl) (by exact Nat.succ_pos _) (fun id26 hid26 => ?_)
     refine pops_mv (.inr rfl) rfl (by simp only [St.eval, upd_at, Nat.reduceEqDiff, if_true, if_false, e1_0, e1_1, e1_5, e1_6, e1_7, e1_13, e1_14, e1_15, e1_23, e1_24, e1_25, shPV] <;> rfl) ?_
     refine pops_vstore (zs := [PV.val (.int .i64 0), PV.val (.string ⟨#[]⟩)]) (hpOk.same hok1 (Same.refl _)) hid26 (by simp only [upd_at, Nat.reduceEqDiff, if_true, if_false, e1_0, e1_1, e1_5, e1_6, e1_7, e1_13, e1_14, e1_15, e1_23, e1_24, e1_25, shPV]) (by simp only [St.eval, constSlot, slotCells, upd_at, Nat.reduceEqDiff, if_true, if_false, e1_0, e1_1, e1_5, e1_6, e1_7, e1_13, e1_14, e1_15, e1_23, e1_24, e1_25, shPV] <;> rfl) (by rfl) (by rw [sz30]; rfl) (fun hv27 sv27 => ?_)
     refine pops_done (hR25 _ ?_)
     clear hR25 R25
     try simp only [thenK, scopeK]
     refine hN24 _ ?_
     clear hN24 N24
     refine pwp_then fun N28 hN28 => ?_
     refine pwp_reg fun R29 hR29 => ?_
     refine pops_mv (.inl rfl) rfl (by simp only [St.eval, upd_at, Nat.reduceEqDiff, if_true, if_false, e1_0, e1_1, e1_5, e1_6, e1_7, e1_13, e1_14, e1_15, e1_23, e1_24, e1_25, shPV] <;> rfl) ?_
     refine pops_mv (.inl rfl) rfl (by simp only [St.eval, upd_at, Nat.reduceEqDiff, if_true, if_false, e1_0, e1_1, e1_5, e1_6, e1_7, e1_13, e1_14, e1_15, e1_23, e1_24, e1_25, shPV] <;> rfl) ?_
     refine pops_to rfl fun M hM => ?_
     simp only [pop, St.eval, constSlot, upd_at, Nat.reduceEqDiff, if_true, if_false, popBin, binK, intK, strK, eqK, Tryd.underlying3, isPtr, eq_self, true_and, and_true, e1_0, e1_1, e1_5, e1_6, e1_7, e1_13, e1_14, e1_15, e1_23, e1_24, e1_25, shPV]
     refine hM _ _ ?_
     clear hM M
     refine pops_done (hR29 _ ?_)
     clear hR29 R29
     try simp only [thenK, scopeK]
     refine hN28 _ ?_
     clear hN28 N28
     refine pwp_cond (by simp only [St.eval, upd_at, Nat.reduceEqDiff, if_true, if_false, e1_0, e1_1, e1_5, e1_6, e1_7, e1_13, e1_14, e1_15, e1_23, e1_24, e1_25, shPV] <;> rfl) (fun c32 => ?_) (fun c32 => ?_)
     ·skip
      have hne : q ≠ i := fun e => by subst e; simp at c32
      obtain ⟨acc, hacc⟩ : ∃ a, a = Gf.wt z x.1 (xsOf (l.take q)) := ⟨_, rfl⟩
      rw [← hacc] at hx1_2
      have hxy : ¬ y.1 = x.1 := fun e => hne (nodup_at hd hx hy e)
      obtain ⟨id2, ver2, es2, hsl2, hl2, hbk2, htk2, hgt2⟩ := ho4.open (by rw [List.length_map]; omega)
      have hbk3 := hbk2
      rw [← (sv27).1] at hbk3
      have hg2 : es2[i]? = some [pbyte acc] := by rw [hgt2 i (by rw [List.length_map]; omega), List.getElem?_map, hx1_2]; rfl
      refine pwp_dreg 22 mixed (by decide +kernel) fun R30 hR30 => ?_
      simp only [List.take_succ_cons, List.take_zero, List.drop_succ_cons, List.drop_zero]
      apply lex_to
      · rfl
      ·intro h' s' M hM
       simp only [pop, St.eval, constSlot, upd_at, Nat.reduceEqDiff, if_true, if_false, eq_self, true_and, and_true, str_list, str_size, str_app, str_cut, str_get, e1_0, e1_1, e1_5, e1_6, e1_7, e1_13, e1_14, e1_15, e1_23, e1_24, e1_25, shPV, hsl2, s'.1]
       exact hM _ (.refl _)
      apply lex_to
      · rfl
      ·intro h' s' M hM
       simp only [pop, St.eval, constSlot, upd_at, Nat.reduceEqDiff, if_true, if_false, eq_self, true_and, and_true, str_list, str_size, str_app, str_cut, str_get, e1_0, e1_1, e1_5, e1_6, e1_7, e1_13, e1_14, e1_15, e1_23, e1_24, e1_25, shPV, hsl2, s'.1]
       exact hM _ (.refl _)
      apply lex_to
      · rfl
      ·intro h' s' M hM
       simp only [pop, St.eval, constSlot, upd_at, Nat.reduceEqDiff, if_true, if_false, eq_self, true_and, and_true, str_list, str_size, str_app, str_cut, str_get, e1_0, e1_1, e1_5, e1_6, e1_7, e1_13, e1_14, e1_15, e1_23, e1_24, e1_25, shPV, hsl2, s'.1]
       exact hM _ (.refl _)
      apply lex_to
      · rfl
      ·intro h' s' M hM
       simp only [pop, St.eval, constSlot, upd_at, Nat.reduceEqDiff, if_true, if_false, eq_self, true_and, and_true, str_list, str_size, str_app, str_cut, str_get, e1_0, e1_1, e1_5, e1_6, e1_7, e1_13, e1_14, e1_15, e1_23, e1_24, e1_25, shPV, hsl2, s'.1]
       exact hM _ (.refl _)
      apply lex_to
      · rfl
      ·intro h' s' M hM
       simp only [pop, St.eval, constSlot, upd_at, Nat.reduceEqDiff, if_true, if_false, popIndexAddr, Tryd.underlying36, sz5, eq_self, true_and, and_true, str_list, str_size, str_app, str_cut, str_get, e1_0, e1_1, e1_5, e1_6, e1_7, e1_13, e1_14, e1_15, e1_23, e1_24, e1_25, shPV, hsl2, hbk3, Int.toNat_natCast, Nat.zero_add, List.length_map, s'.1]
       refine ⟨Int.natCast_nonneg _, by omega, ?_⟩
       exact hM _ (.refl _)
      apply lex_to
      · rfl
      ·intro h' s' M hM
       simp only [pop, St.eval, constSlot, upd_at, Nat.reduceEqDiff, if_true, if_false, popLoad, loadK, isAggD, List.drop_zero, List.getElem?_toArray, List.getElem?_cons_zero, List.getElem?_cons_succ, Bool.false_eq_true, Tryd.underlying5, sz5, eq_self, true_and, and_true, e1_0, e1_1, e1_5, e1_6, e1_7, e1_13, e1_14, e1_15, e1_23, e1_24, e1_25, shPV, hsl2, hbk3, hg2, s'.1]
       exact hM _ (.refl _)
      apply lex_to
      · rfl
      ·intro h' s' M hM
       simp only [pop, St.eval, constSlot, upd_at, Nat.reduceEqDiff, if_true, if_false, eq_self, true_and, and_true, str_list, str_size, str_app, str_cut, str_get, e1_0, e1_1, e1_5, e1_6, e1_7, e1_13, e1_14, e1_15, e1_23, e1_24, e1_25, shPV, hsl2, s'.1]
       exact hM _ (.refl _)
      apply lex_to
      · rfl
      ·intro h' s' M hM
       simp only [pop, St.eval, constSlot, upd_at, Nat.reduceEqDiff, if_true, if_false, popFieldAddr, fieldOf, List.drop_succ_cons, List.drop_zero, List.getElem?_toArray, List.getElem?_cons_zero, List.getElem?_cons_succ, Tryd.underlying30, sz3, e1_0, e1_1, e1_5, e1_6, e1_7, e1_13, e1_14, e1_15, e1_23, e1_24, e1_25, shPV, hsl2, s'.1]
       exact ⟨⟨_, rfl⟩, hM _ (.refl _)⟩
      apply lex_to
      · rfl
      ·intro h' s' M hM
       simp only [pop, St.eval, constSlot, upd_at, Nat.reduceEqDiff, if_true, if_false, popLoad, loadK, isAggD, List.drop_zero, List.getElem?_toArray, List.getElem?_cons_zero, List.getElem?_cons_succ, Bool.false_eq_true, Tryd.underlying3, sz3, eq_self, true_and, and_true, e1_0, e1_1, e1_5, e1_6, e1_7, e1_13, e1_14, e1_15, e1_23, e1_24, e1_25, shPV, hsl2, s'.1]
       exact hM _ (.refl _)
      apply lex_to
      · rfl
      ·intro h' s' M hM
       simp only [pop, St.eval, constSlot, upd_at, Nat.reduceEqDiff, if_true, if_false, popConvert, Tryd.underlying3, Tryd.underlying5, eq_self, true_and, and_true, str_list, str_size, str_app, str_cut, str_get, e1_0, e1_1, e1_5, e1_6, e1_7, e1_13, e1_14, e1_15, e1_23, e1_24, e1_25, shPV, hsl2, u8_id, s'.1]
       exact hM _ (.refl _)
      apply lex_to
      · rfl
      ·intro h' s' M hM
       simp only [pop, St.eval, constSlot, upd_at, Nat.reduceEqDiff, if_true, if_false, popBin, binK, intK, strK, eqK, eq_self, true_and, and_true, e1_0, e1_1, e1_5, e1_6, e1_7, e1_13, e1_14, e1_15, e1_23, e1_24, e1_25, shPV, hsl2, u8_xor, s'.1]
       exact hM _ (.refl _)
      apply lex_to
      · rfl
      ·intro h' s' M hM
       simp only [pop, St.eval, constSlot, upd_at, Nat.reduceEqDiff, if_true, if_false, popFieldAddr, fieldOf, List.drop_succ_cons, List.drop_zero, List.getElem?_toArray, List.getElem?_cons_zero, List.getElem?_cons_succ, Tryd.underlying30, sz3, e1_0, e1_1, e1_5, e1_6, e1_7, e1_13, e1_14, e1_15, e1_23, e1_24, e1_25, shPV, hsl2, s'.1]
       exact ⟨⟨_, rfl⟩, hM _ (.refl _)⟩
      apply lex_to
      · rfl
      ·intro h' s' M hM
       simp only [pop, St.eval, constSlot, upd_at, Nat.reduceEqDiff, if_true, if_false, popLoad, loadK, isAggD, List.drop_zero, List.getElem?_toArray, List.getElem?_cons_zero, List.getElem?_cons_succ, Bool.false_eq_true, Tryd.underlying3, sz3, eq_self, true_and, and_true, e1_0, e1_1, e1_5, e1_6, e1_7, e1_13, e1_14, e1_15, e1_23, e1_24, e1_25, shPV, hsl2, s'.1]
       exact hM _ (.refl _)
      apply lex_to
      · rfl
      ·intro h' s' M hM
       simp only [pop, St.eval, constSlot, upd_at, Nat.reduceEqDiff, if_true, if_false, popConvert, Tryd.underlying3, Tryd.underlying5, eq_self, true_and, and_true, str_list, str_size, str_app, str_cut, str_get, e1_0, e1_1, e1_5, e1_6, e1_7, e1_13, e1_14, e1_15, e1_23, e1_24, e1_25, shPV, hsl2, u8_id, s'.1]
       exact hM _ (.refl _)
      apply lex_to
      · rfl
      ·intro h' s' M hM
       simp only [pop, St.eval, constSlot, upd_at, Nat.reduceEqDiff, if_true, if_false, popFieldAddr, fieldOf, List.drop_succ_cons, List.drop_zero, List.getElem?_toArray, List.getElem?_cons_zero, List.getElem?_cons_succ, Tryd.underlying30, sz3, e1_0, e1_1, e1_5, e1_6, e1_7, e1_13, e1_14, e1_15, e1_23, e1_24, e1_25, shPV, hsl2, s'.1]
       exact ⟨⟨_, rfl⟩, hM _ (.refl _)⟩
      apply lex_to
      · rfl
      ·intro h' s' M hM
       simp only [pop, St.eval, constSlot, upd_at, Nat.reduceEqDiff, if_true, if_false, popLoad, loadK, isAggD, List.drop_zero, List.getElem?_toArray, List.getElem?_cons_zero, List.getElem?_cons_succ, Bool.false_eq_true, Tryd.underlying3, sz3, eq_self, true_and, and_true, e1_0, e1_1, e1_5, e1_6, e1_7, e1_13, e1_14, e1_15, e1_23, e1_24, e1_25, shPV, hsl2, s'.1]
       exact hM _ (.refl _)
      apply lex_to
      · rfl
      ·intro h' s' M hM
       simp only [pop, St.eval, constSlot, upd_at, Nat.reduceEqDiff, if_true, if_false, popConvert, Tryd.underlying3, Tryd.underlying5, eq_self, true_and, and_true, str_list, str_size, str_app, str_cut, str_get, e1_0, e1_1, e1_5, e1_6, e1_7, e1_13, e1_14, e1_15, e1_23, e1_24, e1_25, shPV, hsl2, u8_id, s'.1]
       exact hM _ (.refl _)
      apply lex_to
      · rfl
      ·intro h' s' M hM
       simp only [pop, St.eval, constSlot, upd_at, Nat.reduceEqDiff, if_true, if_false, popBin, binK, intK, strK, eqK, eq_self, true_and, and_true, e1_0, e1_1, e1_5, e1_6, e1_7, e1_13, e1_14, e1_15, e1_23, e1_24, e1_25, shPV, hsl2, u8_xor, s'.1]
       exact hM _ (.refl _)
      apply lex_to
      · rfl
      ·intro h' s' M hM
       simp only [pop, St.eval, constSlot, upd_at, Nat.reduceEqDiff, if_true, if_false, popCall, List.toList_toArray, List.map_cons, List.map_nil, svs, List.mapM_cons, List.mapM_nil, Option.bind_eq_bind, Option.bind_some, Option.pure_def, List.append_nil, List.cons_append, List.nil_append, str_size, e1_0, e1_1, e1_5, e1_6, e1_7, e1_13, e1_14, e1_15, e1_23, e1_24, e1_25, shPV, hsl2, s'.1]
       refine PFun.use (inverse_fun W0 (x.1 ^^^ y.1)) fun hp s => hM _ s
      apply lex_to
      · rfl
      ·intro h' s' M hM
       simp only [pop, St.eval, constSlot, upd_at, Nat.reduceEqDiff, if_true, if_false, popCall, List.toList_toArray, List.map_cons, List.map_nil, svs, List.mapM_cons, List.mapM_nil, Option.bind_eq_bind, Option.bind_some, Option.pure_def, List.append_nil, List.cons_append, List.nil_append, str_size, e1_0, e1_1, e1_5, e1_6, e1_7, e1_13, e1_14, e1_15, e1_23, e1_24, e1_25, shPV, hsl2, s'.1]
       refine PFun.use (times_fun W0 (z ^^^ y.1) (Gf.iv (x.1 ^^^ y.1))) fun hp s => hM _ s
      apply lex_to
      · rfl
      ·intro h' s' M hM
       simp only [pop, St.eval, constSlot, upd_at, Nat.reduceEqDiff, if_true, if_false, popCall, List.toList_toArray, List.map_cons, List.map_nil, svs, List.mapM_cons, List.mapM_nil, Option.bind_eq_bind, Option.bind_some, Option.pure_def, List.append_nil, List.cons_append, List.nil_append, str_size, e1_0, e1_1, e1_5, e1_6, e1_7, e1_13, e1_14, e1_15, e1_23, e1_24, e1_25, shPV, hsl2, s'.1]
       refine PFun.use (times_fun W0 acc _) fun hp s => hM _ s
      apply lex_to
      · rfl
      ·intro h' s' M hM
       simp only [pop, St.eval, constSlot, upd_at, Nat.reduceEqDiff, if_true, if_false, popIndexAddr, Tryd.underlying36, sz5, eq_self, true_and, and_true, str_list, str_size, str_app, str_cut, str_get, e1_0, e1_1, e1_5, e1_6, e1_7, e1_13, e1_14, e1_15, e1_23, e1_24, e1_25, shPV, hsl2, hbk3, Int.toNat_natCast, Nat.zero_add, List.length_map, s'.1]
       refine ⟨Int.natCast_nonneg _, by omega, ?_⟩
       exact hM _ (.refl _)
      refine lex_done fun hq sq => ?_
      replace sq := Same.trans sv27 sq
      refine pops_no fun M hM => ?_
      simp only [pop, St.eval, constSlot, upd_at, Nat.reduceEqDiff, if_true, if_false, eq_self, true_and, and_true, str_list, str_size, str_app, str_cut, str_get, e1_0, e1_1, e1_5, e1_6, e1_7, e1_13, e1_14, e1_15, e1_23, e1_24, e1_25, shPV, hsl2]
      refine el_store (ElAt.same ⟨hsl2, hl2, hbk2, htk2, by rw [List.length_map]; omega⟩ sq) hb (hKb.trans (Same.keeps sq)) (c := byteCell acc) (by rw [List.getElem?_map, hx1_2]; rfl) rfl sz5 (Nat.le_refl 1) fun hp6 ho6 hk6 => hM _ _ ?_
      replace ho6 := (set_byte vs i acc _) ▸ ho6
      clear hM M
      refine pops_done (hR30 _ ?_)
      clear hR30 R30
      try simp only [blockK, thenK, scopeK]
      try simp only [thenK, scopeK]
      refine hN23 _ ?_
      clear hN23 N23
      refine pwp_reg fun R31 hR31 => ?_
      refine pops_to rfl fun M hM => ?_
      simp only [pop, St.eval, constSlot, upd_at, Nat.reduceEqDiff, if_true, if_false, popBin, binK, intK, strK, eqK, eq_self, true_and, and_true, e1_0, e1_1, e1_5, e1_6, e1_7, e1_13, e1_14, e1_15, e1_23, e1_24, e1_25, shPV, hsl2]
      refine hM _ _ ?_
      clear hM M
      refine pops_mv (.inl rfl) rfl (by simp only [St.eval, upd_at, Nat.reduceEqDiff, if_true, if_false, e1_0, e1_1, e1_5, e1_6, e1_7, e1_13, e1_14, e1_15, e1_23, e1_24, e1_25, shPV, hsl2] <;> rfl) ?_
      refine pops_done (hR31 _ ?_)
      clear hR31 R31
      try simp only [thenK, scopeK]
      exact ⟨_, by omega, _, .refl _ _, q + 1, (vs.set i (Gf.gm acc (Gf.gm (z ^^^ y.1) (Gf.iv (x.1 ^^^ y.1))))), rfl, by omega, by rw [List.length_set]; exact hx1_1, by rw [List.getElem?_set_self (by omega), take_snoc hy, wt_snoc, if_neg hxy, ← hacc]; rfl, fun j hj => by rw [List.getElem?_set_ne (by omega)]; exact hx1_3 j hj, ⟨hk6.trans (Same.keeps (Same.refl _)), ho6.same (Same.refl _)⟩, by simp only [upd_at, Nat.reduceEqDiff, if_true, if_false, e1_0, e1_1, e1_5, e1_6, e1_7, e1_13, e1_14, e1_15, e1_23, e1_24, e1_25, shPV, hsl2], by simp only [upd_at, Nat.reduceEqDiff, if_true, if_false, e1_0, e1_1, e1_5, e1_6, e1_7, e1_13, e1_14, e1_15, e1_23, e1_24, e1_25, shPV, hsl2], by simp only [upd_at, Nat.reduceEqDiff, if_true, if_false, e1_0, e1_1, e1_5, e1_6, e1_7, e1_13, e1_14, e1_15, e1_23, e1_24, e1_25, shPV, hsl2], by simp only [upd_at, Nat.reduceEqDiff, if_true, if_false, e1_0, e1_1, e1_5, e1_6, e1_7, e1_13, e1_14, e1_15, e1_23, e1_24, e1_25, shPV, hsl2], by simp only [upd_at, Nat.reduceEqDiff, if_true, if_false, e1_0, e1_1, e1_5, e1_6, e1_7, e1_13, e1_14, e1_15, e1_23, e1_24, e1_25, shPV, hsl2], by simp only [upd_at, Nat.reduceEqDiff, if_true, if_false, e1_0, e1_1, e1_5, e1_6, e1_7, e1_13, e1_14, e1_15, e1_23, e1_24, e1_25, shPV, hsl2], by simp only [upd_at, Nat.reduceEqDiff, if_true, if_false, e1_0, e1_1, e1_5, e1_6, e1_7, e1_13, e1_14, e1_15, e1_23, e1_24, e1_25, shPV, hsl2], by simp only [upd_at, Nat.reduceEqDiff, if_true, if_false, e1_0, e1_1, e1_5, e1_6, e1_7, e1_13, e1_14, e1_15, e1_23, e1_24, e1_25, shPV, hsl2], by simp only [upd_at, Nat.reduceEqDiff, if_true, if_false, e1_0, e1_1, e1_5, e1_6, e1_7, e1_13, e1_14, e1_15, e1_23, e1_24, e1_25, shPV, hsl2], by simp only [upd_at, Nat.reduceEqDiff, if_true, if_false, e1_0, e1_1, e1_5, e1_6, e1_7, e1_13, e1_14, e1_15, e1_23, e1_24, e1_25, shPV, hsl2], by simp only [upd_at, Nat.reduceEqDiff, if_true, if_false, e1_25]; rw [wrap_succ (by omega)]⟩
     ·skip
      have hqi9 : (q : Int) = i := by simpa using c32
      have hqi : q = i := by omega
      have hyx : y.1 = x.1 := by rw [hqi, hx] at hy; rw [Option.some.inj hy]
      refine pwp_skip ?_
      try simp only [blockK, thenK, scopeK]
      try simp only [thenK, scopeK]
      refine hN23 _ ?_
      clear hN23 N23
      refine pwp_reg fun R32 hR32 => ?_
      refine pops_to rfl fun M hM => ?_
      simp only [pop, St.eval, constSlot, upd_at, Nat.reduceEqDiff, if_true, if_false, popBin, binK, intK, strK, eqK, eq_self, true_and, and_true, e1_0, e1_1, e1_5, e1_6, e1_7, e1_13, e1_14, e1_15, e1_23, e1_24, e1_25, shPV]
      refine hM _ _ ?_
      clear hM M
      refine pops_mv (.inl rfl) rfl (by simp only [St.eval, upd_at, Nat.reduceEqDiff, if_true, if_false, e1_0, e1_1, e1_5, e1_6, e1_7, e1_13, e1_14, e1_15, e1_23, e1_24, e1_25, shPV] <;> rfl) ?_
      refine pops_done (hR32 _ ?_)
      clear hR32 R32
      try simp only [thenK, scopeK]
      exact ⟨_, by omega, _, .refl _ _, q + 1, vs, rfl, by omega, hx1_1, by rw [take_snoc hy, wt_snoc, if_pos hyx]; exact hx1_2, hx1_3, ⟨hKb.trans (Same.keeps sv27), ho4.same sv27⟩, by simp only [upd_at, Nat.reduceEqDiff, if_true, if_false, e1_0, e1_1, e1_5, e1_6, e1_7, e1_13, e1_14, e1_15, e1_23, e1_24, e1_25, shPV], by simp only [upd_at, Nat.reduceEqDiff, if_true, if_false, e1_0, e1_1, e1_5, e1_6, e1_7, e1_13, e1_14, e1_15, e1_23, e1_24, e1_25, shPV], by simp only [upd_at, Nat.reduceEqDiff, if_true, if_false, e1_0, e1_1, e1_5, e1_6, e1_7, e1_13, e1_14, e1_15, e1_23, e1_24, e1_25, shPV], by simp only [upd_at, Nat.reduceEqDiff, if_true, if_false, e1_0, e1_1, e1_5, e1_6, e1_7, e1_13, e1_14, e1_15, e1_23, e1_24, e1_25, shPV], by simp only [upd_at, Nat.reduceEqDiff, if_true, if_false, e1_0, e1_1, e1_5, e1_6, e1_7, e1_13, e1_14, e1_15, e1_23, e1_24, e1_25, shPV], by simp only [upd_at, Nat.reduceEqDiff, if_true, if_false, e1_0, e1_1, e1_5, e1_6, e1_7, e1_13, e1_14, e1_15, e1_23, e1_24, e1_25, shPV], by simp only [upd_at, Nat.reduceEqDiff, if_true, if_false, e1_0, e1_1, e1_5, e1_6, e1_7, e1_13, e1_14, e1_15, e1_23, e1_24, e1_25, shPV], by simp only [upd_at, Nat.reduceEqDiff, if_true, if_false, e1_0, e1_1, e1_5, e1_6, e1_7, e1_13, e1_14, e1_15, e1_23, e1_24, e1_25, shPV], by simp only [upd_at, Nat.reduceEqDiff, if_true, if_false, e1_0, e1_1, e1_5, e1_6, e1_7, e1_13, e1_14, e1_15, e1_23, e1_24, e1_25, shPV], by simp only [upd_at, Nat.reduceEqDiff, if_true, if_false, e1_0, e1_1, e1_5, e1_6, e1_7, e1_13, e1_14, e1_15, e1_23, e1_24, e1_25, shPV], by simp only [upd_at, Nat.reduceEqDiff, if_true, if_false, e1_25]; rw [wrap_succ (by omega)]⟩
    ·skip
     obtain rfl : q = l.length := by have := of_decide_eq_false c26; omega
     refine pwp_exit ?_
     try simp only [thenK, blockK, scopeK, if_true, Nat.reduceEqDiff, if_false]
     clear hN22 N22
     try simp only [blockK, scopeK, if_true, Nat.reduceEqDiff, if_false, thenK]
     try simp only [blockK, thenK, scopeK]
     try simp only [thenK, scopeK]
     refine hN11 _ ?_
     clear hN11 N11
     refine pwp_reg fun R33 hR33 => ?_
     refine pops_to rfl fun M hM => ?_
     simp only [pop, St.eval, constSlot, upd_at, Nat.reduceEqDiff, if_true, if_false, popBin, binK, intK, strK, eqK, eq_self, true_and, and_true, e1_0, e1_1, e1_5, e1_6, e1_7, e1_13, e1_14, e1_15, e1_23, e1_24, e1_25, shPV]
     refine hM _ _ ?_
     clear hM M
     refine pops_mv (.inl rfl) rfl (by simp only [St.eval, upd_at, Nat.reduceEqDiff, if_true, if_false, e1_0, e1_1, e1_5, e1_6, e1_7, e1_13, e1_14, e1_15, e1_23, e1_24, e1_25, shPV] <;> rfl) ?_
     refine pops_done (hR33 _ ?_)
     clear hR33 R33
     try simp only [thenK, scopeK]
     exact ⟨_, by omega, _, .refl _ _, i + 1, sl, vs, rfl, by omega, hx1_1, fun j hj => by
       rcases Nat.lt_or_ge j i with h | h
       · exact hx1_3 j h
       · obtain rfl : j = i := by omega
         rw [wts_at hx, hx1_2, List.take_length], ⟨hKb.trans (Same.keeps (Same.refl _)), ho4.same (Same.refl _)⟩, by simp only [upd_at, Nat.reduceEqDiff, if_true, if_false, e1_0, e1_1, e1_5, e1_6, e1_7, e1_13, e1_14, e1_15, e1_23, e1_24, e1_25, shPV], by simp only [upd_at, Nat.reduceEqDiff, if_true, if_false, e1_0, e1_1, e1_5, e1_6, e1_7, e1_13, e1_14, e1_15, e1_23, e1_24, e1_25, shPV], by simp only [upd_at, Nat.reduceEqDiff, if_true, if_false, e1_0, e1_1, e1_5, e1_6, e1_7, e1_13, e1_14, e1_15, e1_23, e1_24, e1_25, shPV], by simp only [upd_at, Nat.reduceEqDiff, if_true, if_false, e1_0, e1_1, e1_5, e1_6, e1_7, e1_13, e1_14, e1_15, e1_23, e1_24, e1_25, shPV], by simp only [upd_at, Nat.reduceEqDiff, if_true, if_false, e1_0, e1_1, e1_5, e1_6, e1_7, e1_13, e1_14, e1_15, e1_23, e1_24, e1_25, shPV], by simp only [upd_at, Nat.reduceEqDiff, if_true, if_false, e0_15]; rw [wrap_succ (by omega)]⟩
  ·skip
   obtain rfl : i = l.length := by have := of_decide_eq_false c16; omega
   obtain rfl := wts_all hx0_1 hx0_2
   refine pwp_exit ?_
   try simp only [thenK, blockK, scopeK, if_true, Nat.reduceEqDiff, if_false]
   clear hN10 N10
   try simp only [blockK, scopeK, if_true, Nat.reduceEqDiff, if_false, thenK]
   try simp only [thenK, scopeK]
   refine hN5 _ ?_
   clear hN5 N5
   refine pwp_then fun N34 hN34 => ?_
   refine pwp_reg fun R35 hR35 => ?_
   refine pops_mv (.inl rfl) rfl (by simp only [St.eval, upd_at, Nat.reduceEqDiff, if_true, if_false, e0_0, e0_1, e0_5, e0_13, e0_14, e0_15, shPV] <;> rfl) ?_
   refine pops_mv (.inr rfl) rfl (by simp only [St.eval, upd_at, Nat.reduceEqDiff, if_true, if_false, e0_0, e0_1, e0_5, e0_13, e0_14, e0_15, shPV] <;> rfl) ?_
   refine pops_done (hR35 _ ?_)
   clear hR35 R35
   try simp only [thenK, scopeK]
   refine hN34 _ ?_
   clear hN34 N34
   refine pwp_ret ?_
   simp only [thenK, blockK, scopeK, bodyK]
   exact ⟨_, rfl, endRow (ho.same (Same.refl _)) hb (hKa.trans (Same.keeps (Same.refl _)))⟩
end Go.Pw
