import Derived.Test.YtomkpdnnimcapaaDoorShB
namespace Go.Pw
open Go Go.RowKit Go.Proofs
set_option maxRecDepth 100000
set_option linter.unusedSimpArgs false
set_option linter.unusedVariables false

def sumP (z : UInt8) (xs : List UInt8) (l : List (UInt8 × List UInt8)) (j : Nat) : UInt8 := Gf.sumX (l.map fun s => Gf.gm (Gf.wt z s.1 xs) (s.2.getD j 0))
def valL (z : UInt8) (l : List (UInt8 × List UInt8)) (m : Nat) : List UInt8 := (List.range m).map fun j => sumP z (xsOf l) l j
theorem sumX_snoc (l : List UInt8) (a : UInt8) : Gf.sumX (l ++ [a]) = Gf.sumX l ^^^ a := by
  induction l with
  | nil => simp [Gf.sumX]
  | cons b l ih => simp only [List.cons_append, Gf.sumX, ih, UInt8.xor_assoc]
theorem sumP_snoc {z : UInt8} {xs : List UInt8} {l : List (UInt8 × List UInt8)} {i : Nat} {x : UInt8 × List UInt8} (hx : l[i]? = some x) (j : Nat) {d : UInt8} (hd : x.2[j]? = some d) : sumP z xs (l.take (i + 1)) j = sumP z xs (l.take i) j ^^^ Gf.gm (Gf.wt z x.1 xs) d := by
  unfold sumP
  rw [List.take_add_one, hx]
  simp only [Option.toList_some, List.map_append, List.map_cons, List.map_nil, sumX_snoc]
  rw [List.getD_eq_getElem?_getD, hd]; rfl
theorem valL_all {z : UInt8} {l : List (UInt8 × List UInt8)} {m : Nat} {os : List UInt8} (hl : os.length = m) (h : ∀ j, j < m → os[j]? = some (sumP z (xsOf l) (l.take l.length) j)) : os = valL z l m := by
  apply List.ext_getElem?
  intro j
  rcases Nat.lt_or_ge j m with hj | hj
  · rw [h j hj, List.take_length, valL, List.getElem?_map, List.getElem?_range hj]; rfl
  · rw [List.getElem?_eq_none (by omega), List.getElem?_eq_none (by rw [valL, List.length_map, List.length_range]; omega)]
theorem blen {os : List UInt8} {m : Nat} (h : os.length = m) : (os.map byteCell).length = m := by rw [List.length_map]; exact h
theorem nm11 : (Tryd.f11.name == "runtime.NumGoroutine") = false := by kernel_rfl
set_option maxHeartbeats 2000000 in
theorem valueAt_fun (W0 : World) (full : Bool) (l : List (UInt8 × List UInt8)) (z : UInt8) (m : Nat) (hn : l.length ≤ 255) (h0 : 0 < l.length) (hm : ∀ s ∈ l, s.2.length = m) (hm1 : m ≤ 1024) (hd : (xsOf l).Nodup) :
  PFun Tryd.prog W0 11 [.one (.ro full 2 (l.map shPV)), .one (pbyte z)] (.sv (.one (pstr (valL z l m)))) := by
 intro h
 obtain ⟨x0, hx0⟩ : ∃ x, l[0]? = some x := ⟨_, List.getElem?_eq_getElem (by omega)⟩
 have hg0 : (l.map shPV)[0]? = some [.val (.int .i64 (x0.1.toNat : Int)), pstr x0.2] := by simp only [List.getElem?_map, hx0, Option.map_some]
 have hlx0 : x0.2.length = m := hm x0 (List.mem_of_getElem? hx0)
 refine pcalls2 (n := 50) Tryd.func11 rfl nm11 rfl fun hb => ?_
 refine pwp_then fun N1 hN1 => ?_
 refine pwp_reg fun R2 hR2 => ?_
 refine pops_mv (.inr rfl) rfl (by simp only [St.eval, constSlot] <;> rfl) ?_
 refine pops_done (hR2 _ ?_)
 clear hR2 R2
 try simp only [thenK, scopeK]
 refine hN1 _ ?_
 clear hN1 N1
 refine pwp_then fun N3 hN3 => ?_
 refine pwp_reg fun R4 hR4 => ?_
 refine pops_mv (.inl rfl) rfl (by simp only [St.eval, upd_at, Nat.reduceEqDiff, if_true, if_false, shPV] <;> rfl) ?_
 refine pops_mv (.inl rfl) rfl (by simp only [St.eval, upd_at, Nat.reduceEqDiff, if_true, if_false, shPV] <;> rfl) ?_
 refine pops_to rfl fun M hM => ?_
 simp only [pop, St.eval, constSlot, upd_at, Nat.reduceEqDiff, if_true, if_false, popCall, List.toList_toArray, List.map_cons, List.map_nil, svs, List.mapM_cons, List.mapM_nil, Option.bind_eq_bind, Option.bind_some, Option.pure_def, List.append_nil, List.cons_append, List.nil_append, str_size, shPV]
 refine PFun.use (weights_fun W0 full l z hn hd) fun h1 s1 => hM _ _ ?_
 replace s1 := Same.trans (Same.refl _) s1
 clear hM M
 refine pops_mv (.inr rfl) rfl (by simp only [St.eval, upd_at, Nat.reduceEqDiff, if_true, if_false, shPV] <;> rfl) ?_
 refine pops_done (hR4 _ ?_)
 clear hR4 R4
 try simp only [thenK, scopeK]
 refine hN3 _ ?_
 clear hN3 N3
 refine pwp_then fun N5 hN5 => ?_
 refine pwp_reg fun R6 hR6 => ?_
 refine pops_mv (.inl rfl) rfl (by simp only [St.eval, upd_at, Nat.reduceEqDiff, if_true, if_false, shPV] <;> rfl) ?_
 refine pops_to rfl fun M hM => ?_
 simp only [pop, St.eval, constSlot, upd_at, Nat.reduceEqDiff, if_true, if_false, popIndexAddr, Tryd.underlying25, sz30, eq_self, true_and, and_true, str_list, str_size, str_app, str_cut, str_get, shPV, hg0, show (0 : Int).toNat = 0 from rfl]
 refine ⟨by decide, hM _ _ ?_⟩
 clear hM M
 refine pops_to rfl fun M hM => ?_
 simp only [pop, St.eval, constSlot, upd_at, Nat.reduceEqDiff, if_true, if_false, popFieldAddr, fieldOf, List.drop_succ_cons, List.drop_zero, List.getElem?_toArray, List.getElem?_cons_zero, List.getElem?_cons_succ, Tryd.underlying30, sz9, shPV]
 refine ⟨⟨_, rfl⟩, hM _ _ ?_⟩
 clear hM M
 refine pops_to rfl fun M hM => ?_
 simp only [pop, St.eval, constSlot, upd_at, Nat.reduceEqDiff, if_true, if_false, popLoad, loadK, isAggD, List.drop_zero, List.getElem?_toArray, List.getElem?_cons_zero, List.getElem?_cons_succ, Bool.false_eq_true, Tryd.underlying9, sz9, eq_self, true_and, and_true, shPV]
 refine hM _ _ ?_
 clear hM M
 refine pops_to rfl fun M hM => ?_
 simp only [pop, St.eval, constSlot, upd_at, Nat.reduceEqDiff, if_true, if_false, popCall, List.toList_toArray, List.map_cons, List.map_nil, popBuiltin, popLen, lenOfSlot, List.length_map, Tryd.underlying9, eq_self, true_and, and_true, str_list, str_size, str_app, str_cut, str_get, shPV, hlx0]
 refine hM _ _ ?_
 clear hM M
 refine pops_to rfl fun M hM => ?_
 simp only [pop, St.eval, constSlot, upd_at, Nat.reduceEqDiff, if_true, if_false, eq_self, true_and, and_true, str_list, str_size, str_app, str_cut, str_get, shPV]
 refine row_make hb Tryd.underlying36 sz5 by5 ze5 rfl (by kernel_rfl) Nat.one_pos (Same.keeps s1) (by omega) (by omega) fun rw1 hp1 ho1 hk1 => hM _ _ ?_
 rw [fill_bytes] at ho1
 clear hM M
 refine pops_mv (.inr rfl) rfl (by simp only [St.eval, upd_at, Nat.reduceEqDiff, if_true, if_false, shPV] <;> rfl) ?_
 refine pops_done (hR6 _ ?_)
 clear hR6 R6
 try simp only [thenK, scopeK]
 refine hN5 _ ?_
 clear hN5 N5
 refine pwp_then fun N7 hN7 => ?_
 refine pwp_then fun N8 hN8 => ?_
 refine pwp_reg fun R9 hR9 => ?_
 refine pops_mv (.inl rfl) rfl (by simp only [St.eval, upd_at, Nat.reduceEqDiff, if_true, if_false, shPV] <;> rfl) ?_
 refine pops_to rfl fun M hM => ?_
 simp only [pop, St.eval, constSlot, upd_at, Nat.reduceEqDiff, if_true, if_false, popCall, List.toList_toArray, List.map_cons, List.map_nil, popBuiltin, popLen, lenOfSlot, List.length_map, Tryd.underlying25, eq_self, true_and, and_true, str_list, str_size, str_app, str_cut, str_get, shPV, List.length_map]
 refine hM _ _ ?_
 clear hM M
 refine pops_mv (.inl rfl) rfl (by simp only [St.eval, constSlot] <;> rfl) ?_
 refine pops_done (hR9 _ ?_)
 clear hR9 R9
 try simp only [thenK, scopeK]
 refine hN8 _ ?_
 clear hN8 N8
 refine pwp_block ?_
 refine pwp_loop (fun k σ => ∃ (i : Nat), ∃ (sl : Slot), ∃ (os : List UInt8), (k = l.length - i) ∧ (i ≤ l.length) ∧ (os.length = m) ∧ (∀ j, j < m → os[j]? = some (sumP z (xsOf l) (l.take i) j)) ∧ (Keeps h σ.hp ∧ RowIs 5 1 h σ.hp sl (os.map byteCell)) ∧ (σ.env 0 = .sv (.one (.ro full 2 (l.map shPV)))) ∧ (σ.env 5 = .sv (.one (.ro false 1 ((wts z l).map byteCell)))) ∧ (σ.env 6 = sl) ∧ (σ.env 19 = .sv (.one (.ro full 2 (l.map shPV)))) ∧ (σ.env 20 = .sv (.one (pint (l.length : Nat)))) ∧ (σ.env 21 = .sv (.one (pint (i : Nat))))) _ ⟨_, .refl _ _, 0, rw1, (List.replicate m 0), rfl, ?_⟩ ?_
 · exact ⟨Nat.zero_le _, by simp, fun j hj => by rw [List.getElem?_replicate, if_pos hj]; rfl, ⟨hk1.trans (Same.keeps (Same.refl _)), ho1.same (Same.refl _)⟩, by simp only [upd_at, Nat.reduceEqDiff, if_true, if_false, shPV], by simp only [upd_at, Nat.reduceEqDiff, if_true, if_false, shPV], by simp only [upd_at, Nat.reduceEqDiff, if_true, if_false, shPV], by simp only [upd_at, Nat.reduceEqDiff, if_true, if_false, shPV], by simp only [upd_at, Nat.reduceEqDiff, if_true, if_false, shPV], by first | rfl | (simp only [upd_at, Nat.reduceEqDiff, if_true, if_false]; rfl)⟩
 ·rintro k ⟨e, hp0⟩ ⟨i, sl, os, hk0, hx0_0, hx0_1, hx0_2, sl0, e0_0, e0_5, e0_6, e0_19, e0_20, e0_21⟩
  simp only at sl0 e0_0 e0_5 e0_6 e0_19 e0_20 e0_21
  obtain ⟨hKa, ho⟩ := sl0
  refine pwp_hpok fun hok0 => ?_
  simp only at hok0
  refine pwp_then fun N10 hN10 => ?_
  refine pwp_reg fun R11 hR11 => ?_
  refine pops_to rfl fun M hM => ?_
  simp only [pop, St.eval, constSlot, upd_at, Nat.reduceEqDiff, if_true, if_false, popBin, binK, intK, strK, eqK, eq_self, true_and, and_true, e0_0, e0_5, e0_6, e0_19, e0_20, e0_21, shPV]
  refine hM _ _ ?_
  clear hM M
  refine pops_done (hR11 _ ?_)
  clear hR11 R11
  try simp only [thenK, scopeK]
  refine hN10 _ ?_
  clear hN10 N10
  refine pwp_then fun N12 hN12 => ?_
  refine pwp_cond (by simp only [St.eval, upd_at, Nat.reduceEqDiff, if_true, if_false, e0_0, e0_5, e0_6, e0_19, e0_20, e0_21, shPV] <;> rfl) (fun c22 => ?_) (fun c22 => ?_)
  ·skip
   have hi : i < l.length := by have := of_decide_eq_true c22; omega
   obtain ⟨x, hx⟩ : ∃ x, l[i]? = some x := ⟨_, List.getElem?_eq_getElem (by omega)⟩
   have hgx : (l.map shPV)[i]? = some [.val (.int .i64 (x.1.toNat : Int)), pstr x.2] := by simp only [List.getElem?_map, hx, Option.map_some]
   have hlx : x.2.length = m := hm x (List.mem_of_getElem? hx)
   refine pwp_skip ?_
   try simp only [thenK, scopeK]
   refine hN12 _ ?_
   clear hN12 N12
   refine pwp_then fun N13 hN13 => ?_
   refine pwp_block ?_
   refine pwp_then fun N14 hN14 => ?_
   refine pwp_reg fun R15 hR15 => ?_
   refine pops_mv (.inl rfl) rfl (by simp only [St.eval, upd_at, Nat.reduceEqDiff, if_true, if_false, e0_0, e0_5, e0_6, e0_19, e0_20, e0_21, shPV] <;> rfl) ?_
   refine pops_to rfl fun M hM => ?_
   simp only [pop, St.eval, constSlot, upd_at, Nat.reduceEqDiff, if_true, if_false, popIndexAddr, Tryd.underlying25, sz30, eq_self, true_and, and_true, str_list, str_size, str_app, str_cut, str_get, e0_0, e0_5, e0_6, e0_19, e0_20, e0_21, shPV, hgx, Int.toNat_natCast]
   refine ⟨Int.natCast_nonneg _, hM _ _ ?_⟩
   clear hM M
   refine pops_to rfl fun M hM => ?_
   simp only [pop, St.eval, constSlot, upd_at, Nat.reduceEqDiff, if_true, if_false, List.length_cons, List.length_nil, Nat.zero_add, Nat.reduceAdd, Nat.reduceLeDiff, List.take_zero, List.take_succ_cons, List.take_nil, List.drop_succ_cons, List.drop_zero, List.drop_nil, List.nil_append, List.cons_append, List.append_nil, and_self, List.getElem?_cons_zero, List.getElem?_cons_succ, List.set_cons_zero, List.set_cons_succ, Option.some.injEq, popLoad, loadK, isAggD, List.drop_zero, List.getElem?_toArray, List.getElem?_cons_zero, List.getElem?_cons_succ, Bool.false_eq_true, Tryd.underlying30, sz30, eq_self, true_and, and_true, e0_0, e0_5, e0_6, e0_19, e0_20, e0_21, shPV]
   refine hM _ _ ?_
   clear hM M
   refine pops_valloc rfl ze30 (zs := [PV.val (.int .i64 0), PV.val (.string ⟨#[]⟩)]) (by kernel_rfl) (by exact Nat.succ_pos _) (fun id16 hid16 => ?_)
   refine pops_mv (.inr rfl) rfl (by simp only [St.eval, upd_at, Nat.reduceEqDiff, if_true, if_false, e0_0, e0_5, e0_6, e0_19, e0_20, e0_21, shPV] <;> rfl) ?_
   refine pops_vstore (zs := [PV.val (.int .i64 0), PV.val (.string ⟨#[]⟩)]) (hpOk.same hok0 (Same.refl _)) hid16 (by simp only [upd_at, Nat.reduceEqDiff, if_true, if_false, e0_0, e0_5, e0_6, e0_19, e0_20, e0_21, shPV]) (by simp only [St.eval, constSlot, slotCells, upd_at, Nat.reduceEqDiff, if_true, if_false, e0_0, e0_5, e0_6, e0_19, e0_20, e0_21, shPV] <;> rfl) (by rfl) (by rw [sz30]; rfl) (fun hv17 sv17 => ?_)
   refine pops_done (hR15 _ ?_)
   clear hR15 R15
   try simp only [thenK, scopeK]
   refine hN14 _ ?_
   clear hN14 N14
   refine pwp_then fun N18 hN18 => ?_
   refine pwp_reg fun R19 hR19 => ?_
   refine pops_mv (.inl rfl) rfl (by simp only [St.eval, upd_at, Nat.reduceEqDiff, if_true, if_false, e0_0, e0_5, e0_6, e0_19, e0_20, e0_21, shPV] <;> rfl) ?_
   refine pops_to rfl fun M hM => ?_
   simp only [pop, St.eval, constSlot, upd_at, Nat.reduceEqDiff, if_true, if_false, popCall, List.toList_toArray, List.map_cons, List.map_nil, popBuiltin, eq_self, true_and, and_true, str_list, str_size, str_app, str_cut, str_get, e0_0, e0_5, e0_6, e0_19, e0_20, e0_21, shPV]
   refine row_len Tryd.underlying36 (ho.same sv17) ?_
   rw [blen hx0_1]
   refine hM _ _ ?_
   clear hM M
   refine pops_mv (.inl rfl) rfl (by simp only [St.eval, constSlot] <;> rfl) ?_
   refine pops_done (hR19 _ ?_)
   clear hR19 R19
   try simp only [thenK, scopeK]
   refine hN18 _ ?_
   clear hN18 N18
   refine pwp_block ?_
   refine pwp_loop (fun k σ => ∃ (q : Nat), ∃ (vs : List UInt8), (k = m - q) ∧ (q ≤ m) ∧ (vs.length = m) ∧ (∀ j, j < q → vs[j]? = some (sumP z (xsOf l) (l.take (i + 1)) j)) ∧ (∀ j, q ≤ j → j < m → vs[j]? = some (sumP z (xsOf l) (l.take i) j)) ∧ (Keeps h σ.hp ∧ RowIs 5 1 h σ.hp sl (vs.map byteCell)) ∧ (σ.env 0 = .sv (.one (.ro full 2 (l.map shPV)))) ∧ (σ.env 5 = .sv (.one (.ro false 1 ((wts z l).map byteCell)))) ∧ (σ.env 6 = sl) ∧ (σ.env 7 = .sv (.one (pint (i : Nat)))) ∧ (σ.env 8 = .sv (.one (.rop (shPV x)))) ∧ (σ.env 19 = .sv (.one (.ro full 2 (l.map shPV)))) ∧ (σ.env 20 = .sv (.one (pint (l.length : Nat)))) ∧ (σ.env 21 = .sv (.one (pint (i : Nat)))) ∧ (σ.env 27 = .sv (.one (pint (m : Nat)))) ∧ (σ.env 28 = .sv (.one (pint (q : Nat))))) _ ⟨_, .refl _ _, 0, os, rfl, ?_⟩ ?_
   · exact ⟨Nat.zero_le _, hx0_1, fun j hj => absurd hj (by omega), fun j _ hj => hx0_2 j hj, ⟨hKa.trans (Same.keeps sv17), ho.same sv17⟩, by simp only [upd_at, Nat.reduceEqDiff, if_true, if_false, e0_0, e0_5, e0_6, e0_19, e0_20, e0_21, shPV], by simp only [upd_at, Nat.reduceEqDiff, if_true, if_false, e0_0, e0_5, e0_6, e0_19, e0_20, e0_21, shPV], by simp only [upd_at, Nat.reduceEqDiff, if_true, if_false, e0_0, e0_5, e0_6, e0_19, e0_20, e0_21, shPV], by simp only [upd_at, Nat.reduceEqDiff, if_true, if_false, e0_0, e0_5, e0_6, e0_19, e0_20, e0_21, shPV], by simp only [upd_at, Nat.reduceEqDiff, if_true, if_false, e0_0, e0_5, e0_6, e0_19, e0_20, e0_21, shPV], by simp only [upd_at, Nat.reduceEqDiff, if_true, if_false, e0_0, e0_5, e0_6, e0_19, e0_20, e0_21, shPV], by simp only [upd_at, Nat.reduceEqDiff, if_true, if_false, e0_0, e0_5, e0_6, e0_19, e0_20, e0_21, shPV], by simp only [upd_at, Nat.reduceEqDiff, if_true, if_false, e0_0, e0_5, e0_6, e0_19, e0_20, e0_21, shPV], by first | rfl | (simp only [upd_at, Nat.reduceEqDiff, if_true, if_false]; rfl), by first | rfl | (simp only [upd_at, Nat.reduceEqDiff, if_true, if_false]; rfl)⟩
   ·rintro k ⟨e, hp1⟩ ⟨q, vs, hk1, hx1_0, hx1_1, hx1_2, hx1_3, sl1, e1_0, e1_5, e1_6, e1_7, e1_8, e1_19, e1_20, e1_21, e1_27, e1_28⟩
    simp only at sl1 e1_0 e1_5 e1_6 e1_7 e1_8 e1_19 e1_20 e1_21 e1_27 e1_28
    obtain ⟨hKb, ho4⟩ := sl1
    refine pwp_hpok fun hok1 => ?_
    simp only at hok1
    refine pwp_then fun N20 hN20 => ?_
    refine pwp_reg fun R21 hR21 => ?_
    refine pops_to rfl fun M hM => ?_
    simp only [pop, St.eval, constSlot, upd_at, Nat.reduceEqDiff, if_true, if_false, popBin, binK, intK, strK, eqK, eq_self, true_and, and_true, e1_0, e1_5, e1_6, e1_7, e1_8, e1_19, e1_20, e1_21, e1_27, e1_28, shPV]
    refine hM _ _ ?_
    clear hM M
    refine pops_done (hR21 _ ?_)
    clear hR21 R21
    try simp only [thenK, scopeK]
    refine hN20 _ ?_
    clear hN20 N20
    refine pwp_then fun N22 hN22 => ?_
    refine pwp_cond (by simp only [St.eval, upd_at, Nat.reduceEqDiff, if_true, if_false, e1_0, e1_5, e1_6, e1_7, e1_8, e1_19, e1_20, e1_21, e1_27, e1_28, shPV] <;> rfl) (fun c29 => ?_) (fun c29 => ?_)
    ·skip
     have hq : q < m := by have := of_decide_eq_true c29; omega
     obtain ⟨d, hdq⟩ : ∃ d, x.2[q]? = some d := ⟨_, List.getElem?_eq_getElem (by omega)⟩
     refine pwp_skip ?_
     try simp only [thenK, scopeK]
     refine hN22 _ ?_
     clear hN22 N22
     refine pwp_then fun N23 hN23 => ?_
     refine pwp_block ?_
     refine pwp_then fun N24 hN24 => ?_
     refine pwp_reg fun R25 hR25 => ?_
     refine pops_mv (.inl rfl) rfl (by simp only [St.eval, upd_at, Nat.reduceEqDiff, if_true, if_false, e1_0, e1_5, e1_6, e1_7, e1_8, e1_19, e1_20, e1_21, e1_27, e1_28, shPV] <;> rfl) ?_
     refine pops_mv (.inr rfl) rfl (by simp only [St.eval, upd_at, Nat.reduceEqDiff, if_true, if_false, e1_0, e1_5, e1_6, e1_7, e1_8, e1_19, e1_20, e1_21, e1_27, e1_28, shPV] <;> rfl) ?_
     refine pops_done (hR25 _ ?_)
     clear hR25 R25
     try simp only [thenK, scopeK]
     refine hN24 _ ?_
     clear hN24 N24
     obtain ⟨a0, hva⟩ : ∃ a, vs[q]? = some a := ⟨_, List.getElem?_eq_getElem (by omega)⟩
     obtain ⟨id2, ver2, es2, hsl2, hl2, hbk2, htk2, hgt2⟩ := ho4.open (by rw [List.length_map]; omega)
     have hbk3 := hbk2
     rw [← ((Same.refl _)).1] at hbk3
     have hg2 : es2[q]? = some [pbyte a0] := by rw [hgt2 q (by rw [List.length_map]; omega), List.getElem?_map, hva]; rfl
     have hgw : ((wts z l).map byteCell)[i]? = some [pbyte (Gf.wt z x.1 (xsOf l))] := by rw [List.getElem?_map, wts_at hx]; rfl
     refine pwp_dreg 15 mixed (by decide +kernel) fun R26 hR26 => ?_
     simp only [List.take_succ_cons, List.take_zero, List.drop_succ_cons, List.drop_zero]
     apply lex_to
     · rfl
     ·intro h' s' M hM
      simp only [pop, St.eval, constSlot, upd_at, Nat.reduceEqDiff, if_true, if_false, eq_self, true_and, and_true, str_list, str_size, str_app, str_cut, str_get, e1_0, e1_5, e1_6, e1_7, e1_8, e1_19, e1_20, e1_21, e1_27, e1_28, shPV, hsl2, s'.1]
      exact hM _ (.refl _)
     apply lex_to
     · rfl
     ·intro h' s' M hM
      simp only [pop, St.eval, constSlot, upd_at, Nat.reduceEqDiff, if_true, if_false, eq_self, true_and, and_true, str_list, str_size, str_app, str_cut, str_get, e1_0, e1_5, e1_6, e1_7, e1_8, e1_19, e1_20, e1_21, e1_27, e1_28, shPV, hsl2, s'.1]
      exact hM _ (.refl _)
     apply lex_to
     · rfl
     ·intro h' s' M hM
      simp only [pop, St.eval, constSlot, upd_at, Nat.reduceEqDiff, if_true, if_false, popIndexAddr, Tryd.underlying36, sz5, eq_self, true_and, and_true, str_list, str_size, str_app, str_cut, str_get, e1_0, e1_5, e1_6, e1_7, e1_8, e1_19, e1_20, e1_21, e1_27, e1_28, shPV, hsl2, hbk3, Int.toNat_natCast, Nat.zero_add, List.length_map, s'.1]
      refine ⟨Int.natCast_nonneg _, by omega, ?_⟩
      exact hM _ (.refl _)
     apply lex_to
     · rfl
     ·intro h' s' M hM
      simp only [pop, St.eval, constSlot, upd_at, Nat.reduceEqDiff, if_true, if_false, popLoad, loadK, isAggD, List.drop_zero, List.getElem?_toArray, List.getElem?_cons_zero, List.getElem?_cons_succ, Bool.false_eq_true, Tryd.underlying5, sz5, eq_self, true_and, and_true, e1_0, e1_5, e1_6, e1_7, e1_8, e1_19, e1_20, e1_21, e1_27, e1_28, shPV, hsl2, hbk3, hg2, s'.1]
      exact hM _ (.refl _)
     apply lex_to
     · rfl
     ·intro h' s' M hM
      simp only [pop, St.eval, constSlot, upd_at, Nat.reduceEqDiff, if_true, if_false, eq_self, true_and, and_true, str_list, str_size, str_app, str_cut, str_get, e1_0, e1_5, e1_6, e1_7, e1_8, e1_19, e1_20, e1_21, e1_27, e1_28, shPV, hsl2, s'.1]
      exact hM _ (.refl _)
     apply lex_to
     · rfl
     ·intro h' s' M hM
      simp only [pop, St.eval, constSlot, upd_at, Nat.reduceEqDiff, if_true, if_false, eq_self, true_and, and_true, str_list, str_size, str_app, str_cut, str_get, e1_0, e1_5, e1_6, e1_7, e1_8, e1_19, e1_20, e1_21, e1_27, e1_28, shPV, hsl2, s'.1]
      exact hM _ (.refl _)
     apply lex_to
     · rfl
     ·intro h' s' M hM
      simp only [pop, St.eval, constSlot, upd_at, Nat.reduceEqDiff, if_true, if_false, popIndexAddr, Tryd.underlying36, sz5, eq_self, true_and, and_true, str_list, str_size, str_app, str_cut, str_get, e1_0, e1_5, e1_6, e1_7, e1_8, e1_19, e1_20, e1_21, e1_27, e1_28, shPV, hsl2, hgw, Int.toNat_natCast, s'.1]
      refine ⟨Int.natCast_nonneg _, ?_⟩
      exact hM _ (.refl _)
     apply lex_to
     · rfl
     ·intro h' s' M hM
      simp only [pop, St.eval, constSlot, upd_at, Nat.reduceEqDiff, if_true, if_false, popLoad, loadK, isAggD, List.drop_zero, List.getElem?_toArray, List.getElem?_cons_zero, List.getElem?_cons_succ, Bool.false_eq_true, Tryd.underlying5, sz5, eq_self, true_and, and_true, e1_0, e1_5, e1_6, e1_7, e1_8, e1_19, e1_20, e1_21, e1_27, e1_28, shPV, hsl2, s'.1]
      exact hM _ (.refl _)
     apply lex_to
     · rfl
     ·intro h' s' M hM
      simp only [pop, St.eval, constSlot, upd_at, Nat.reduceEqDiff, if_true, if_false, popFieldAddr, fieldOf, List.drop_succ_cons, List.drop_zero, List.getElem?_toArray, List.getElem?_cons_zero, List.getElem?_cons_succ, Tryd.underlying30, sz9, e1_0, e1_5, e1_6, e1_7, e1_8, e1_19, e1_20, e1_21, e1_27, e1_28, shPV, hsl2, s'.1]
      exact ⟨⟨_, rfl⟩, hM _ (.refl _)⟩
     apply lex_to
     · rfl
     ·intro h' s' M hM
      simp only [pop, St.eval, constSlot, upd_at, Nat.reduceEqDiff, if_true, if_false, popLoad, loadK, isAggD, List.drop_zero, List.getElem?_toArray, List.getElem?_cons_zero, List.getElem?_cons_succ, Bool.false_eq_true, Tryd.underlying9, sz9, eq_self, true_and, and_true, e1_0, e1_5, e1_6, e1_7, e1_8, e1_19, e1_20, e1_21, e1_27, e1_28, shPV, hsl2, s'.1]
      exact hM _ (.refl _)
     apply lex_to
     · rfl
     ·intro h' s' M hM
      simp only [pop, St.eval, constSlot, upd_at, Nat.reduceEqDiff, if_true, if_false, eq_self, true_and, and_true, str_list, str_size, str_app, str_cut, str_get, e1_0, e1_5, e1_6, e1_7, e1_8, e1_19, e1_20, e1_21, e1_27, e1_28, shPV, hsl2, s'.1]
      exact hM _ (.refl _)
     apply lex_to
     · rfl
     ·intro h' s' M hM
      simp only [pop, St.eval, constSlot, upd_at, Nat.reduceEqDiff, if_true, if_false, popIndex, partK, Tryd.underlying9, eq_self, true_and, and_true, str_list, str_size, str_app, str_cut, str_get, e1_0, e1_5, e1_6, e1_7, e1_8, e1_19, e1_20, e1_21, e1_27, e1_28, shPV, hsl2, hdq, Int.toNat_natCast, s'.1]
      refine ⟨Int.natCast_nonneg _, ?_⟩
      exact hM _ (.refl _)
     apply lex_to
     · rfl
     ·intro h' s' M hM
      simp only [pop, St.eval, constSlot, upd_at, Nat.reduceEqDiff, if_true, if_false, popCall, List.toList_toArray, List.map_cons, List.map_nil, svs, List.mapM_cons, List.mapM_nil, Option.bind_eq_bind, Option.bind_some, Option.pure_def, List.append_nil, List.cons_append, List.nil_append, str_size, e1_0, e1_5, e1_6, e1_7, e1_8, e1_19, e1_20, e1_21, e1_27, e1_28, shPV, hsl2, s'.1]
      refine PFun.use (times_fun W0 (Gf.wt z x.1 (xsOf l)) d) fun hp s => hM _ s
     apply lex_to
     · rfl
     ·intro h' s' M hM
      simp only [pop, St.eval, constSlot, upd_at, Nat.reduceEqDiff, if_true, if_false, popBin, binK, intK, strK, eqK, eq_self, true_and, and_true, e1_0, e1_5, e1_6, e1_7, e1_8, e1_19, e1_20, e1_21, e1_27, e1_28, shPV, hsl2, u8_xor, s'.1]
      exact hM _ (.refl _)
     apply lex_to
     · rfl
     ·intro h' s' M hM
      simp only [pop, St.eval, constSlot, upd_at, Nat.reduceEqDiff, if_true, if_false, popIndexAddr, Tryd.underlying36, sz5, eq_self, true_and, and_true, str_list, str_size, str_app, str_cut, str_get, e1_0, e1_5, e1_6, e1_7, e1_8, e1_19, e1_20, e1_21, e1_27, e1_28, shPV, hsl2, hbk3, Int.toNat_natCast, Nat.zero_add, List.length_map, s'.1]
      refine ⟨Int.natCast_nonneg _, by omega, ?_⟩
      exact hM _ (.refl _)
     refine lex_done fun hq sq => ?_
     skip
     refine pops_no fun M hM => ?_
     simp only [pop, St.eval, constSlot, upd_at, Nat.reduceEqDiff, if_true, if_false, eq_self, true_and, and_true, str_list, str_size, str_app, str_cut, str_get, e1_0, e1_5, e1_6, e1_7, e1_8, e1_19, e1_20, e1_21, e1_27, e1_28, shPV, hsl2]
     refine el_store (ElAt.same ⟨hsl2, hl2, hbk2, htk2, by rw [List.length_map]; omega⟩ sq) hb (hKb.trans (Same.keeps sq)) (c := byteCell a0) (by rw [List.getElem?_map, hva]; rfl) rfl sz5 (Nat.le_refl 1) fun hp6 ho6 hk6 => hM _ _ ?_
     replace ho6 := (set_byte vs q a0 _) ▸ ho6
     clear hM M
     refine pops_done (hR26 _ ?_)
     clear hR26 R26
     try simp only [blockK, thenK, scopeK]
     try simp only [thenK, scopeK]
     refine hN23 _ ?_
     clear hN23 N23
     refine pwp_reg fun R27 hR27 => ?_
     refine pops_to rfl fun M hM => ?_
     simp only [pop, St.eval, constSlot, upd_at, Nat.reduceEqDiff, if_true, if_false, popBin, binK, intK, strK, eqK, eq_self, true_and, and_true, e1_0, e1_5, e1_6, e1_7, e1_8, e1_19, e1_20, e1_21, e1_27, e1_28, shPV, hsl2]
     refine hM _ _ ?_
     clear hM M
     refine pops_mv (.inl rfl) rfl (by simp only [St.eval, upd_at, Nat.reduceEqDiff, if_true, if_false, e1_0, e1_5, e1_6, e1_7, e1_8, e1_19, e1_20, e1_21, e1_27, e1_28, shPV, hsl2] <;> rfl) ?_
     refine pops_done (hR27 _ ?_)
     clear hR27 R27
     try simp only [thenK, scopeK]
     exact ⟨_, by omega, _, .refl _ _, q + 1, (vs.set q (a0 ^^^ Gf.gm (Gf.wt z x.1 (xsOf l)) d)), rfl, by omega, by rw [List.length_set]; exact hx1_1, fun j hj => by
       rcases Nat.lt_or_ge j q with h | h
       · rw [List.getElem?_set_ne (by omega)]; exact hx1_2 j h
       · obtain rfl : j = q := by omega
         have e := hx1_3 j (Nat.le_refl _) hq
         rw [hva] at e
         rw [List.getElem?_set_self (by omega), sumP_snoc hx j hdq, Option.some.inj e], fun j h1 h2 => by rw [List.getElem?_set_ne (by omega)]; exact hx1_3 j (by omega) h2, ⟨hk6.trans (Same.keeps (Same.refl _)), ho6.same (Same.refl _)⟩, by simp only [upd_at, Nat.reduceEqDiff, if_true, if_false, e1_0, e1_5, e1_6, e1_7, e1_8, e1_19, e1_20, e1_21, e1_27, e1_28, shPV, hsl2], by simp only [upd_at, Nat.reduceEqDiff, if_true, if_false, e1_0, e1_5, e1_6, e1_7, e1_8, e1_19, e1_20, e1_21, e1_27, e1_28, shPV, hsl2], by simp only [upd_at, Nat.reduceEqDiff, if_true, if_false, e1_0, e1_5, e1_6, e1_7, e1_8, e1_19, e1_20, e1_21, e1_27, e1_28, shPV, hsl2], by simp only [upd_at, Nat.reduceEqDiff, if_true, if_false, e1_0, e1_5, e1_6, e1_7, e1_8, e1_19, e1_20, e1_21, e1_27, e1_28, shPV, hsl2], by simp only [upd_at, Nat.reduceEqDiff, if_true, if_false, e1_0, e1_5, e1_6, e1_7, e1_8, e1_19, e1_20, e1_21, e1_27, e1_28, shPV, hsl2], by simp only [upd_at, Nat.reduceEqDiff, if_true, if_false, e1_0, e1_5, e1_6, e1_7, e1_8, e1_19, e1_20, e1_21, e1_27, e1_28, shPV, hsl2], by simp only [upd_at, Nat.reduceEqDiff, if_true, if_false, e1_0, e1_5, e1_6, e1_7, e1_8, e1_19, e1_20, e1_21, e1_27, e1_28, shPV, hsl2], by simp only [upd_at, Nat.reduceEqDiff, if_true, if_false, e1_0, e1_5, e1_6, e1_7, e1_8, e1_19, e1_20, e1_21, e1_27, e1_28, shPV, hsl2], by simp only [upd_at, Nat.reduceEqDiff, if_true, if_false, e1_0, e1_5, e1_6, e1_7, e1_8, e1_19, e1_20, e1_21, e1_27, e1_28, shPV, hsl2], by simp only [upd_at, Nat.reduceEqDiff, if_true, if_false, e1_28]; rw [wrap_succ (by omega)]⟩
    ·skip
     have hqm := of_decide_eq_false c29
     refine pwp_exit ?_
     try simp only [thenK, blockK, scopeK, if_true, Nat.reduceEqDiff, if_false]
     clear hN22 N22
     try simp only [blockK, scopeK, if_true, Nat.reduceEqDiff, if_false, thenK]
     try simp only [blockK, thenK, scopeK]
     try simp only [thenK, scopeK]
     refine hN13 _ ?_
     clear hN13 N13
     refine pwp_reg fun R28 hR28 => ?_
     refine pops_to rfl fun M hM => ?_
     simp only [pop, St.eval, constSlot, upd_at, Nat.reduceEqDiff, if_true, if_false, popBin, binK, intK, strK, eqK, eq_self, true_and, and_true, e1_0, e1_5, e1_6, e1_7, e1_8, e1_19, e1_20, e1_21, e1_27, e1_28, shPV]
     refine hM _ _ ?_
     clear hM M
     refine pops_mv (.inl rfl) rfl (by simp only [St.eval, upd_at, Nat.reduceEqDiff, if_true, if_false, e1_0, e1_5, e1_6, e1_7, e1_8, e1_19, e1_20, e1_21, e1_27, e1_28, shPV] <;> rfl) ?_
     refine pops_done (hR28 _ ?_)
     clear hR28 R28
     try simp only [thenK, scopeK]
     exact ⟨_, by omega, _, .refl _ _, i + 1, sl, vs, rfl, by omega, hx1_1, fun j hj => hx1_2 j (by omega), ⟨hKb.trans (Same.keeps (Same.refl _)), ho4.same (Same.refl _)⟩, by simp only [upd_at, Nat.reduceEqDiff, if_true, if_false, e1_0, e1_5, e1_6, e1_7, e1_8, e1_19, e1_20, e1_21, e1_27, e1_28, shPV], by simp only [upd_at, Nat.reduceEqDiff, if_true, if_false, e1_0, e1_5, e1_6, e1_7, e1_8, e1_19, e1_20, e1_21, e1_27, e1_28, shPV], by simp only [upd_at, Nat.reduceEqDiff, if_true, if_false, e1_0, e1_5, e1_6, e1_7, e1_8, e1_19, e1_20, e1_21, e1_27, e1_28, shPV], by simp only [upd_at, Nat.reduceEqDiff, if_true, if_false, e1_0, e1_5, e1_6, e1_7, e1_8, e1_19, e1_20, e1_21, e1_27, e1_28, shPV], by simp only [upd_at, Nat.reduceEqDiff, if_true, if_false, e1_0, e1_5, e1_6, e1_7, e1_8, e1_19, e1_20, e1_21, e1_27, e1_28, shPV], by simp only [upd_at, Nat.reduceEqDiff, if_true, if_false, e0_21]; rw [wrap_succ (by omega)]⟩
  ·skip
   obtain rfl : i = l.length := by have := of_decide_eq_false c22; omega
   obtain rfl := valL_all hx0_1 hx0_2
   refine pwp_exit ?_
   try simp only [thenK, blockK, scopeK, if_true, Nat.reduceEqDiff, if_false]
   clear hN12 N12
   try simp only [blockK, scopeK, if_true, Nat.reduceEqDiff, if_false, thenK]
   try simp only [thenK, scopeK]
   refine hN7 _ ?_
   clear hN7 N7
   refine pwp_then fun N29 hN29 => ?_
   refine pwp_reg fun R30 hR30 => ?_
   refine pops_mv (.inl rfl) rfl (by simp only [St.eval, upd_at, Nat.reduceEqDiff, if_true, if_false, e0_0, e0_5, e0_6, e0_19, e0_20, e0_21, shPV] <;> rfl) ?_
   refine pops_to rfl fun M hM => ?_
   simp only [pop, St.eval, constSlot, upd_at, Nat.reduceEqDiff, if_true, if_false, eq_self, true_and, and_true, str_list, str_size, str_app, str_cut, str_get, e0_0, e0_5, e0_6, e0_19, e0_20, e0_21, shPV]
   refine row_str Tryd.underlying9 Tryd.underlying36 Tryd.underlying5 (ho.same (Same.refl _)) (hM _ _ ?_)
   clear hM M
   refine pops_mv (.inr rfl) rfl (by simp only [St.eval, upd_at, Nat.reduceEqDiff, if_true, if_false, e0_0, e0_5, e0_6, e0_19, e0_20, e0_21, shPV] <;> rfl) ?_
   refine pops_done (hR30 _ ?_)
   clear hR30 R30
   try simp only [thenK, scopeK]
   refine hN29 _ ?_
   clear hN29 N29
   refine pwp_ret ?_
   simp only [thenK, blockK, scopeK, bodyK]
   exact ⟨_, rfl, endKeeps1 (hKa.trans (Same.keeps (Same.refl _))) rfl⟩
end Go.Pw
