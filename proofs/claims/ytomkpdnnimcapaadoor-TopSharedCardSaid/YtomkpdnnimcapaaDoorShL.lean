import Derived.Test.YtomkpdnnimcapaaDoorShG
namespace Go.Pw
open Go Go.RowKit Go.Proofs
set_option maxRecDepth 100000
set_option linter.unusedSimpArgs false
set_option linter.unusedVariables false

theorem u64_nonneg (x : Int) : 0 ≤ IntKind.u64.wrap x := by
  simp [IntKind.wrap, IntKind.bits, IntKind.signed]; omega
theorem u64_small {n : Nat} (h : n < 256) : IntKind.u64.wrap (n : Int) = n := by
  simp [IntKind.wrap, IntKind.bits, IntKind.signed]; omega
theorem mod_ex (x : Int) (k : Nat) (h : 0 < k) : ∃ r : Nat, r < k ∧ (IntKind.u64.wrap x).tmod (k : Int) = (r : Int) := by
  obtain ⟨u, hu⟩ : ∃ u : Nat, IntKind.u64.wrap x = u := ⟨(IntKind.u64.wrap x).toNat, by have := u64_nonneg x; omega⟩
  exact ⟨u % k, Nat.mod_lt _ h, by rw [hu]; rfl⟩
theorem el_store2 {P : Program} {h0 hp : Hp} {sl : Slot} {xs : List (List PV)} {e : TypeId} {sz : Nat} {N : Slot → Hp → Prop} {i id ver o : Nat} {es : List (List PV)} {c ps : List PV} {u : TypeId} {y : Slot} (E : ElAt e sz h0 hp sl xs i id ver es) (hb0 : hpOk h0) (K : Keeps h0 hp) (hc : xs[i]? = some c) (hy : slotCells y = some ps) (hu : szOf P u = some ps.length) (ho : o + ps.length ≤ c.length)
    (H : ∀ hp' es', hp' = hp.set id ⟨e, sz, es', ver, true⟩ → ElAt e sz h0 hp' sl (xs.set i (splice c o ps)) i id ver es' → Keeps h0 hp' → N (.tup []) hp') : popStore P u (.sv (.one (.ptr id ver i o))) y hp N := by
  unfold popStore
  have hg := E.get
  rw [hc] at hg
  simp only [E.blk, hg, hy]
  refine ⟨trivial, hu, ho, H _ (es.set i (splice c o ps)) rfl ⟨by rw [List.length_set]; exact E.sl, E.lim, blk_set _ _ _, ?_, by rw [List.length_set]; exact E.lt⟩ (K.set hb0 E.lim)⟩
  rw [List.length_set, List.take_set, E.tk]
theorem set_last (T : List (UInt8 × List UInt8)) (x : UInt8) (D D' : List UInt8) : ((T ++ [(x, D)]).map shPV).set T.length (splice (shPV (x, D)) 1 [pstr D']) = (T ++ [(x, D')]).map shPV := by
  rw [List.map_append, List.set_append_right _ _ (by rw [List.length_map]; exact Nat.le_refl _), List.length_map, Nat.sub_self, List.map_append]
  rfl
theorem get_last (T : List (UInt8 × List UInt8)) (y : UInt8 × List UInt8) : ((T ++ [y]).map shPV)[T.length]? = some (shPV y) := by
  rw [List.map_append, List.getElem?_append_right (by rw [List.length_map]; exact Nat.le_refl _), List.length_map, Nat.sub_self]; rfl
theorem ElAt.row {e : TypeId} {sz : Nat} {h0 hp : Hp} {sl : Slot} {xs : List (List PV)} {i id ver : Nat} {es : List (List PV)} (E : ElAt e sz h0 hp sl xs i id ver es) : RowIs e sz h0 hp sl xs := .inr ⟨id, ver, es, E.sl, E.lim, E.blk, E.tk⟩
theorem ElAt.put {e : TypeId} {sz : Nat} {h0 hp : Hp} {sl : Slot} {xs : List (List PV)} {i id ver j : Nat} {es : List (List PV)} {b : Blk} (E : ElAt e sz h0 hp sl xs i id ver es) (hj : id ≠ j) : ElAt e sz h0 (hp.set j b) sl xs i id ver es :=
  ⟨E.sl, E.lim, by simp only [Hp.set]; rw [if_neg hj]; exact E.blk, E.tk, E.lt⟩
theorem blk_put {hp : Hp} {i j : Nat} {b c : Blk} (h : hp.blk i = some c) (hj : i ≠ j) : (hp.set j b).blk i = some c := by
  simp only [Hp.set]; rw [if_neg hj]; exact h
def outs (T : List (UInt8 × List UInt8)) (x : UInt8) (tl : List UInt8) (m v : Nat) : List UInt8 := (List.range v).map fun u => firstV T x (UInt8.ofNat u) tl m
theorem outs_succ (T : List (UInt8 × List UInt8)) (x : UInt8) (tl : List UInt8) (m v : Nat) : outs T x tl m (v + 1) = outs T x tl m v ++ [firstV T x (UInt8.ofNat v) tl m] := by
  unfold outs
  rw [List.range_succ, List.map_append]; rfl
theorem outs_new {T : List (UInt8 × List UInt8)} {x : UInt8} {tl : List UInt8} {m v : Nat} (hm : 0 < m) (hz : ∀ k ∈ xsOf T ++ [x], k ≠ 0) (hv : v < 256) : (outs T x tl m v).contains (firstV T x (UInt8.ofNat v) tl m) = false := by
  rw [List.contains_eq_mem, decide_eq_false_iff_not]
  intro h
  obtain ⟨u, hu, e⟩ := List.mem_map.1 h
  have hu := List.mem_range.1 hu
  have := ofNat_inj (by omega) (by omega) (first_inj hm hz e)
  omega
theorem str_of {P : Program} {t ts t8 : TypeId} {b : Bool} {l : List UInt8} {hp : Hp} {N : Slot → Hp → Prop} (hs : P.underlying ts = some .string) (ht : P.underlying t = some (.slice t8)) (h8 : P.underlying t8 = some (.int .u8)) (H : N (.sv (.one (pstr l))) hp) :
    popConvert P t ts (.sv (.one (.ro b 1 (l.map byteCell)))) hp N := by
  unfold popConvert
  simp only [hs, ht]
  exact ⟨h8, l, ⟨1, rfl⟩, H⟩
theorem last_ex {α : Type} {S : List α} (h : 0 < S.length) : ∃ T la, S = T ++ [la] :=
  have hne : S ≠ [] := by rintro rfl; simp at h
  ⟨S.dropLast, S.getLast hne, (List.dropLast_concat_getLast hne).symm⟩
theorem nm3 : (Tryd.f3.name == "runtime.NumGoroutine") = false := by kernel_rfl
set_option maxHeartbeats 4000000 in
theorem shared_law (W0 : World) (hm : HasMax W0) (sec noise : List UInt8) (n0 m0 : Int) (pick : List Int) (hsl : sec.length ≤ 9223372036854775807) (hnl : noise.length ≤ 9223372036854775807) (hpl : pick.length ≤ 9223372036854775807) :
  PFun Tryd.prog W0 3 [.one (pstr sec), .one (pstr noise), .one (pint n0), .one (pint m0), .one (.ro false 1 (pick.map fun z => [pint z]))] (.sv (.one (pbool true))) := by
 intro h
 obtain ⟨r1, hr1, hw31'⟩ := mod_ex m0 20 (by decide)
 have hw31 : (IntKind.u64.wrap m0).tmod 20 = (r1 : Int) := hw31'
 obtain ⟨M, hMM⟩ : ∃ q, q = r1 + 1 := ⟨_, rfl⟩
 have hw32 : IntKind.i64.wrap (r1 : Int) = (r1 : Int) := i64_small (by omega) (by omega)
 have hw33 : IntKind.i64.wrap (1 + (r1 : Int)) = (M : Int) := by rw [i64_small (by omega) (by omega)]; omega
 have hw37 : IntKind.u64.wrap (M : Int) = (M : Int) := u64_small (by omega)
 obtain ⟨r2, hr2, hw38⟩ := mod_ex n0 M (by omega)
 obtain ⟨Nd, hNd⟩ : ∃ q, q = r2 + 1 := ⟨_, rfl⟩
 have hw39 : IntKind.i64.wrap (r2 : Int) = (r2 : Int) := i64_small (by omega) (by omega)
 have hw40 : IntKind.i64.wrap (1 + (r2 : Int)) = (Nd : Int) := by rw [i64_small (by omega) (by omega)]; omega
 have hw59 : IntKind.i64.wrap ((Nd : Int) - 1) = ((Nd - 1 : Nat) : Int) := by rw [i64_small (by omega) (by omega)]; omega
 refine pcalls5 (n := 189) Tryd.func3 rfl nm3 rfl fun hb => ?_
 refine pwp_then fun N1 hN1 => ?_
 refine pwp_reg fun R2 hR2 => ?_
 refine pops_mv (.inr rfl) rfl (by simp only [St.eval, constSlot] <;> rfl) ?_
 refine pops_done (hR2 _ ?_)
 clear hR2 R2
 try simp only [thenK, scopeK]
 refine hN1 _ ?_
 clear hN1 N1
 refine pwp_then fun N3 hN3 => ?_
 refine pwp_then fun N4 hN4 => ?_
 refine pwp_reg fun R5 hR5 => ?_
 refine pops_to rfl fun M hM => ?_
 simp only [pop, St.eval, constSlot, upd_at, Nat.reduceEqDiff, if_true, if_false, popCall, List.toList_toArray, List.map_cons, List.map_nil, svs, List.mapM_cons, List.mapM_nil, Option.bind_eq_bind, Option.bind_some, Option.pure_def, List.append_nil, List.cons_append, List.nil_append, str_size, shPV]
 refine PFun.use (landed_fun W0 hm) fun h1 s1 => hM _ _ ?_
 replace s1 := Same.trans (Same.refl _) s1
 clear hM M
 refine pops_to rfl fun M hM => ?_
 simp only [pop, St.eval, constSlot, upd_at, Nat.reduceEqDiff, if_true, if_false, unK, shPV]
 refine hM _ _ ?_
 clear hM M
 refine pops_done (hR5 _ ?_)
 clear hR5 R5
 try simp only [thenK, scopeK]
 refine hN4 _ ?_
 clear hN4 N4
 refine pwp_cond (by simp only [St.eval, upd_at, Nat.reduceEqDiff, if_true, if_false, shPV] <;> rfl) (fun c28 => ?_) (fun c28 => ?_)
 ·skip
  simp at c28
 ·skip
  refine pwp_skip ?_
  try simp only [thenK, scopeK]
  refine hN3 _ ?_
  clear hN3 N3
  refine pwp_then fun N6 hN6 => ?_
  refine pwp_reg fun R7 hR7 => ?_
  refine pops_mv (.inl rfl) rfl (by simp only [St.eval, upd_at, Nat.reduceEqDiff, if_true, if_false, shPV] <;> rfl) ?_
  refine pops_to rfl fun M hM => ?_
  simp only [pop, St.eval, constSlot, upd_at, Nat.reduceEqDiff, if_true, if_false, popConvert, Tryd.underlying3, Tryd.underlying24, eq_self, true_and, and_true, str_list, str_size, str_app, str_cut, str_get, shPV]
  refine hM _ _ ?_
  clear hM M
  refine pops_to rfl fun M hM => ?_
  simp only [pop, St.eval, constSlot, upd_at, Nat.reduceEqDiff, if_true, if_false, popBin, binK, intK, strK, eqK, eq_self, true_and, and_true, shPV, hw31]
  refine ⟨by decide, hM _ _ ?_⟩
  clear hM M
  refine pops_to rfl fun M hM => ?_
  simp only [pop, St.eval, constSlot, upd_at, Nat.reduceEqDiff, if_true, if_false, popConvert, Tryd.underlying24, Tryd.underlying3, eq_self, true_and, and_true, str_list, str_size, str_app, str_cut, str_get, shPV, hw32]
  refine hM _ _ ?_
  clear hM M
  refine pops_to rfl fun M hM => ?_
  simp only [pop, St.eval, constSlot, upd_at, Nat.reduceEqDiff, if_true, if_false, popBin, binK, intK, strK, eqK, eq_self, true_and, and_true, shPV, hw33]
  refine hM _ _ ?_
  clear hM M
  refine pops_mv (.inr rfl) rfl (by simp only [St.eval, upd_at, Nat.reduceEqDiff, if_true, if_false, shPV] <;> rfl) ?_
  refine pops_done (hR7 _ ?_)
  clear hR7 R7
  try simp only [thenK, scopeK]
  refine hN6 _ ?_
  clear hN6 N6
  refine pwp_then fun N8 hN8 => ?_
  refine pwp_reg fun R9 hR9 => ?_
  refine pops_mv (.inl rfl) rfl (by simp only [St.eval, upd_at, Nat.reduceEqDiff, if_true, if_false, shPV] <;> rfl) ?_
  refine pops_to rfl fun M hM => ?_
  simp only [pop, St.eval, constSlot, upd_at, Nat.reduceEqDiff, if_true, if_false, popConvert, Tryd.underlying3, Tryd.underlying24, eq_self, true_and, and_true, str_list, str_size, str_app, str_cut, str_get, shPV]
  refine hM _ _ ?_
  clear hM M
  refine pops_mv (.inl rfl) rfl (by simp only [St.eval, upd_at, Nat.reduceEqDiff, if_true, if_false, shPV] <;> rfl) ?_
  refine pops_to rfl fun M hM => ?_
  simp only [pop, St.eval, constSlot, upd_at, Nat.reduceEqDiff, if_true, if_false, popConvert, Tryd.underlying3, Tryd.underlying24, eq_self, true_and, and_true, str_list, str_size, str_app, str_cut, str_get, shPV, hw37]
  refine hM _ _ ?_
  clear hM M
  refine pops_to rfl fun M hM => ?_
  simp only [pop, St.eval, constSlot, upd_at, Nat.reduceEqDiff, if_true, if_false, popBin, binK, intK, strK, eqK, eq_self, true_and, and_true, shPV, hw38]
  refine ⟨by omega, hM _ _ ?_⟩
  clear hM M
  refine pops_to rfl fun M hM => ?_
  simp only [pop, St.eval, constSlot, upd_at, Nat.reduceEqDiff, if_true, if_false, popConvert, Tryd.underlying24, Tryd.underlying3, eq_self, true_and, and_true, str_list, str_size, str_app, str_cut, str_get, shPV, hw39]
  refine hM _ _ ?_
  clear hM M
  refine pops_to rfl fun M hM => ?_
  simp only [pop, St.eval, constSlot, upd_at, Nat.reduceEqDiff, if_true, if_false, popBin, binK, intK, strK, eqK, eq_self, true_and, and_true, shPV, hw40]
  refine hM _ _ ?_
  clear hM M
  refine pops_mv (.inr rfl) rfl (by simp only [St.eval, upd_at, Nat.reduceEqDiff, if_true, if_false, shPV] <;> rfl) ?_
  refine pops_done (hR9 _ ?_)
  clear hR9 R9
  try simp only [thenK, scopeK]
  refine hN8 _ ?_
  clear hN8 N8
  refine pwp_then fun N10 hN10 => ?_
  refine pwp_then fun N11 hN11 => ?_
  refine pwp_reg fun R12 hR12 => ?_
  refine pops_mv (.inl rfl) rfl (by simp only [St.eval, upd_at, Nat.reduceEqDiff, if_true, if_false, shPV] <;> rfl) ?_
  refine pops_to rfl fun M hM => ?_
  simp only [pop, St.eval, constSlot, upd_at, Nat.reduceEqDiff, if_true, if_false, popCall, List.toList_toArray, List.map_cons, List.map_nil, popBuiltin, popLen, lenOfSlot, List.length_map, Tryd.underlying9, eq_self, true_and, and_true, str_list, str_size, str_app, str_cut, str_get, shPV]
  refine hM _ _ ?_
  clear hM M
  refine pops_to rfl fun M hM => ?_
  simp only [pop, St.eval, constSlot, upd_at, Nat.reduceEqDiff, if_true, if_false, popBin, binK, intK, strK, eqK, Tryd.underlying3, isPtr, eq_self, true_and, and_true, shPV]
  refine hM _ _ ?_
  clear hM M
  refine pops_mv (.inl rfl) rfl (by simp only [St.eval, upd_at, Nat.reduceEqDiff, if_true, if_false, shPV] <;> rfl) ?_
  apply pops_or0 4 44 48 [45, 46, 47] (by simp only [upd_at, Nat.reduceEqDiff, if_true, if_false, shPV] <;> rfl)
  ·skip
   intro g44_0 J13 hJ13
   simp only [List.take_succ_cons, List.take_zero]
   simp only [anyAt_cons, anyAt_nil] at hJ13
   refine pops_mvg (.inl rfl) rfl rfl (by simp only [upd_at, Nat.reduceEqDiff, if_true, if_false, shPV, g44_0]) (by simp only [St.eval, upd_at, Nat.reduceEqDiff, if_true, if_false, shPV, g44_0] <;> rfl) ?_
   refine pops_do rfl rfl (by simp only [upd_at, Nat.reduceEqDiff, if_true, if_false, shPV, g44_0]) fun M hM => ?_
   simp only [pop, St.eval, constSlot, upd_at, Nat.reduceEqDiff, if_true, if_false, popCall, List.toList_toArray, List.map_cons, List.map_nil, popBuiltin, popLen, lenOfSlot, List.length_map, Tryd.underlying9, eq_self, true_and, and_true, str_list, str_size, str_app, str_cut, str_get, shPV, g44_0]
   refine hM _ _ ?_
   clear hM M
   refine pops_do rfl rfl (by simp only [upd_at, Nat.reduceEqDiff, if_true, if_false, shPV, g44_0]) fun M hM => ?_
   simp only [pop, St.eval, constSlot, upd_at, Nat.reduceEqDiff, if_true, if_false, popBin, binK, intK, strK, eqK, eq_self, true_and, and_true, shPV, g44_0]
   refine hM _ _ ?_
   clear hM M
   refine pops_to rfl fun M hM => ?_
   simp only [pop, St.eval, constSlot, upd_at, Nat.reduceEqDiff, if_true, if_false, popIf, true_implies, false_implies, Bool.true_eq_false, Bool.false_eq_true, reduceCtorEq, true_and, and_true, shPV, g44_0]
   refine hM _ _ ?_
   clear hM M
   exact pops_done (hJ13 _ (wk_same (wk_any ((wk_any ((wk_any (Wk.refl _ _))))))))
  ·skip
   intro g44_0 J13 hJ13
   simp only [List.take_succ_cons, List.take_zero]
   simp only [anyAt_cons, anyAt_nil] at hJ13
   refine pops_off (b := true) rfl rfl (by simp only [upd_at, Nat.reduceEqDiff, if_true, if_false, shPV, g44_0]) (by decide) ?_
   refine pops_off (b := true) rfl rfl (by simp only [upd_at, Nat.reduceEqDiff, if_true, if_false, shPV, g44_0]) (by decide) ?_
   refine pops_off (b := true) rfl rfl (by simp only [upd_at, Nat.reduceEqDiff, if_true, if_false, shPV, g44_0]) (by decide) ?_
   refine pops_to rfl fun M hM => ?_
   simp only [pop, St.eval, constSlot, upd_at, Nat.reduceEqDiff, if_true, if_false, popIf, true_implies, false_implies, Bool.true_eq_false, Bool.false_eq_true, reduceCtorEq, true_and, and_true, shPV, g44_0]
   refine hM _ _ ?_
   clear hM M
   exact pops_done (hJ13 _ (wk_same (wk_any ((wk_any ((wk_any (Wk.refl _ _))))))))
  simp only [List.drop_succ_cons, List.drop_zero, anyAt_cons, anyAt_nil]
  refine pops_mv (.inl rfl) rfl (by simp only [St.eval, upd_at, Nat.reduceEqDiff, if_true, if_false, shPV] <;> rfl) ?_
  apply pops_or0 4 49 53 [50, 51, 52] (by simp only [upd_at, Nat.reduceEqDiff, if_true, if_false, shPV] <;> rfl)
  ·skip
   intro g49_0 J14 hJ14
   simp only [List.take_succ_cons, List.take_zero]
   simp only [anyAt_cons, anyAt_nil] at hJ14
   refine pops_mvg (.inl rfl) rfl rfl (by simp only [upd_at, Nat.reduceEqDiff, if_true, if_false, shPV, g49_0]) (by simp only [St.eval, upd_at, Nat.reduceEqDiff, if_true, if_false, shPV, g49_0] <;> rfl) ?_
   refine pops_do rfl rfl (by simp only [upd_at, Nat.reduceEqDiff, if_true, if_false, shPV, g49_0]) fun M hM => ?_
   simp only [pop, St.eval, constSlot, upd_at, Nat.reduceEqDiff, if_true, if_false, popCall, List.toList_toArray, List.map_cons, List.map_nil, popBuiltin, popLen, lenOfSlot, List.length_map, Tryd.underlying9, eq_self, true_and, and_true, str_list, str_size, str_app, str_cut, str_get, shPV, g49_0]
   refine hM _ _ ?_
   clear hM M
   refine pops_do rfl rfl (by simp only [upd_at, Nat.reduceEqDiff, if_true, if_false, shPV, g49_0]) fun M hM => ?_
   simp only [pop, St.eval, constSlot, upd_at, Nat.reduceEqDiff, if_true, if_false, popBin, binK, intK, strK, eqK, Tryd.underlying3, isPtr, eq_self, true_and, and_true, shPV, g49_0]
   refine hM _ _ ?_
   clear hM M
   refine pops_to rfl fun M hM => ?_
   simp only [pop, St.eval, constSlot, upd_at, Nat.reduceEqDiff, if_true, if_false, popIf, true_implies, false_implies, Bool.true_eq_false, Bool.false_eq_true, reduceCtorEq, true_and, and_true, shPV, g49_0]
   refine hM _ _ ?_
   clear hM M
   exact pops_done (hJ14 _ (wk_same (wk_any ((wk_any ((wk_any (Wk.refl _ _))))))))
  ·skip
   intro g49_0 J14 hJ14
   simp only [List.take_succ_cons, List.take_zero]
   simp only [anyAt_cons, anyAt_nil] at hJ14
   refine pops_off (b := true) rfl rfl (by simp only [upd_at, Nat.reduceEqDiff, if_true, if_false, shPV, g49_0]) (by decide) ?_
   refine pops_off (b := true) rfl rfl (by simp only [upd_at, Nat.reduceEqDiff, if_true, if_false, shPV, g49_0]) (by decide) ?_
   refine pops_off (b := true) rfl rfl (by simp only [upd_at, Nat.reduceEqDiff, if_true, if_false, shPV, g49_0]) (by decide) ?_
   refine pops_to rfl fun M hM => ?_
   simp only [pop, St.eval, constSlot, upd_at, Nat.reduceEqDiff, if_true, if_false, popIf, true_implies, false_implies, Bool.true_eq_false, Bool.false_eq_true, reduceCtorEq, true_and, and_true, shPV, g49_0]
   refine hM _ _ ?_
   clear hM M
   exact pops_done (hJ14 _ (wk_same (wk_any ((wk_any ((wk_any (Wk.refl _ _))))))))
  simp only [List.drop_succ_cons, List.drop_zero, anyAt_cons, anyAt_nil]
  refine pops_done (hR12 _ ?_)
  clear hR12 R12
  try simp only [thenK, scopeK]
  refine hN11 _ ?_
  clear hN11 N11
  refine pwp_cond (by simp only [St.eval, upd_at, Nat.reduceEqDiff, if_true, if_false, shPV] <;> rfl) (fun c53 => ?_) (fun c53 => ?_)
  ·skip
   refine pwp_then fun N15 hN15 => ?_
   refine pwp_reg fun R16 hR16 => ?_
   refine pops_mv (.inr rfl) rfl (by simp only [St.eval, constSlot] <;> rfl) ?_
   refine pops_done (hR16 _ ?_)
   clear hR16 R16
   try simp only [thenK, scopeK]
   refine hN15 _ ?_
   clear hN15 N15
   refine pwp_ret ?_
   simp only [thenK, blockK, scopeK, bodyK]
   clear hN10 N10
   refine ⟨_, rfl, endFun s1 ?_⟩
   try simp only [upd_at, Nat.reduceEqDiff, if_true, if_false, shPV]
   all_goals
    rfl
  ·skip
   simp only [Bool.or_eq_false_iff, decide_eq_false_iff_not, beq_eq_false_iff_ne, ne_eq] at c53
   have hs0 : 0 < sec.length := by omega
   have hs1 : sec.length ≤ 20 := by omega
   have hz0 : 0 < noise.length := by omega
   have hmul : sec.length * (Nd - 1) ≤ 20 * 19 := Nat.mul_le_mul hs1 (by omega)
   have hw60 : IntKind.i64.wrap ((sec.length : Int) * ((Nd - 1 : Nat) : Int)) = ((sec.length * (Nd - 1) : Nat) : Int) := by rw [← Int.natCast_mul, i64_small (by omega) (by omega)]
   refine pwp_skip ?_
   try simp only [thenK, scopeK]
   refine hN10 _ ?_
   clear hN10 N10
   refine pwp_then fun N17 hN17 => ?_
   refine pwp_block ?_
   refine pwp_loop (fun k σ => ∃ (nz : List UInt8), (k = 400 - nz.length) ∧ (0 < nz.length) ∧ (nz.length ≤ 9223372036854775807) ∧ (Same h σ.hp) ∧ (σ.env 0 = .sv (.one (pstr sec))) ∧ (σ.env 1 = .sv (.one (pstr nz))) ∧ (σ.env 2 = .sv (.one (pint (Nd : Nat)))) ∧ (σ.env 3 = .sv (.one (pint (M : Nat)))) ∧ (σ.env 4 = .sv (.one (.ro false 1 (pick.map fun z => [pint z]))))) _ ⟨_, .refl _ _, noise, rfl, ?_⟩ ?_
   · exact ⟨hz0, hnl, s1, by simp only [upd_at, Nat.reduceEqDiff, if_true, if_false, shPV], by simp only [upd_at, Nat.reduceEqDiff, if_true, if_false, shPV], by simp only [upd_at, Nat.reduceEqDiff, if_true, if_false, shPV], by simp only [upd_at, Nat.reduceEqDiff, if_true, if_false, shPV], by simp only [upd_at, Nat.reduceEqDiff, if_true, if_false, shPV]⟩
   ·rintro k ⟨e, hp0⟩ ⟨nz, hk0, hx0_0, hx0_1, sl0, e0_0, e0_1, e0_2, e0_3, e0_4⟩
    simp only at sl0 e0_0 e0_1 e0_2 e0_3 e0_4
    refine pwp_then fun N18 hN18 => ?_
    refine pwp_then fun N19 hN19 => ?_
    refine pwp_reg fun R20 hR20 => ?_
    refine pops_mv (.inl rfl) rfl (by simp only [St.eval, upd_at, Nat.reduceEqDiff, if_true, if_false, e0_0, e0_1, e0_2, e0_3, e0_4] <;> rfl) ?_
    refine pops_to rfl fun M hM => ?_
    simp only [pop, St.eval, constSlot, upd_at, Nat.reduceEqDiff, if_true, if_false, popCall, List.toList_toArray, List.map_cons, List.map_nil, popBuiltin, popLen, lenOfSlot, List.length_map, Tryd.underlying9, eq_self, true_and, and_true, str_list, str_size, str_app, str_cut, str_get, e0_0, e0_1, e0_2, e0_3, e0_4]
    refine hM _ _ ?_
    clear hM M
    refine pops_mv (.inl rfl) rfl (by simp only [St.eval, upd_at, Nat.reduceEqDiff, if_true, if_false, e0_0, e0_1, e0_2, e0_3, e0_4] <;> rfl) ?_
    refine pops_to rfl fun M hM => ?_
    simp only [pop, St.eval, constSlot, upd_at, Nat.reduceEqDiff, if_true, if_false, popCall, List.toList_toArray, List.map_cons, List.map_nil, popBuiltin, popLen, lenOfSlot, List.length_map, Tryd.underlying9, eq_self, true_and, and_true, str_list, str_size, str_app, str_cut, str_get, e0_0, e0_1, e0_2, e0_3, e0_4]
    refine hM _ _ ?_
    clear hM M
    refine pops_mv (.inl rfl) rfl (by simp only [St.eval, upd_at, Nat.reduceEqDiff, if_true, if_false, e0_0, e0_1, e0_2, e0_3, e0_4] <;> rfl) ?_
    refine pops_to rfl fun M hM => ?_
    simp only [pop, St.eval, constSlot, upd_at, Nat.reduceEqDiff, if_true, if_false, popBin, binK, intK, strK, eqK, eq_self, true_and, and_true, e0_0, e0_1, e0_2, e0_3, e0_4, hw59]
    refine hM _ _ ?_
    clear hM M
    refine pops_to rfl fun M hM => ?_
    simp only [pop, St.eval, constSlot, upd_at, Nat.reduceEqDiff, if_true, if_false, popBin, binK, intK, strK, eqK, eq_self, true_and, and_true, e0_0, e0_1, e0_2, e0_3, e0_4, hw60]
    refine hM _ _ ?_
    clear hM M
    refine pops_to rfl fun M hM => ?_
    simp only [pop, St.eval, constSlot, upd_at, Nat.reduceEqDiff, if_true, if_false, popBin, binK, intK, strK, eqK, eq_self, true_and, and_true, e0_0, e0_1, e0_2, e0_3, e0_4]
    refine hM _ _ ?_
    clear hM M
    refine pops_done (hR20 _ ?_)
    clear hR20 R20
    try simp only [thenK, scopeK]
    refine hN19 _ ?_
    clear hN19 N19
    refine pwp_cond (by simp only [St.eval, upd_at, Nat.reduceEqDiff, if_true, if_false, e0_0, e0_1, e0_2, e0_3, e0_4] <;> rfl) (fun c61 => ?_) (fun c61 => ?_)
    ·skip
     have hlt : nz.length < sec.length * (Nd - 1) := by have := of_decide_eq_true c61; omega
     have hap : (nz ++ nz).length = nz.length + nz.length := List.length_append
     refine pwp_skip ?_
     try simp only [thenK, scopeK]
     refine hN18 _ ?_
     clear hN18 N18
     refine pwp_block ?_
     refine pwp_reg fun R21 hR21 => ?_
     refine pops_mv (.inl rfl) rfl (by simp only [St.eval, upd_at, Nat.reduceEqDiff, if_true, if_false, e0_0, e0_1, e0_2, e0_3, e0_4] <;> rfl) ?_
     refine pops_mv (.inl rfl) rfl (by simp only [St.eval, upd_at, Nat.reduceEqDiff, if_true, if_false, e0_0, e0_1, e0_2, e0_3, e0_4] <;> rfl) ?_
     refine pops_to rfl fun M hM => ?_
     simp only [pop, St.eval, constSlot, upd_at, Nat.reduceEqDiff, if_true, if_false, popBin, binK, intK, strK, eqK, eq_self, true_and, and_true, str_list, str_size, str_app, str_cut, str_get, e0_0, e0_1, e0_2, e0_3, e0_4]
     refine ⟨by omega, hM _ _ ?_⟩
     clear hM M
     refine pops_mv (.inr rfl) rfl (by simp only [St.eval, upd_at, Nat.reduceEqDiff, if_true, if_false, e0_0, e0_1, e0_2, e0_3, e0_4] <;> rfl) ?_
     refine pops_done (hR21 _ ?_)
     clear hR21 R21
     try simp only [blockK, thenK, scopeK]
     try simp only [thenK, scopeK]
     exact ⟨_, by omega, _, .refl _ _, (nz ++ nz), rfl, by omega, by omega, sl0, by simp only [upd_at, Nat.reduceEqDiff, if_true, if_false, e0_0, e0_1, e0_2, e0_3, e0_4], by simp only [upd_at, Nat.reduceEqDiff, if_true, if_false, e0_0, e0_1, e0_2, e0_3, e0_4], by simp only [upd_at, Nat.reduceEqDiff, if_true, if_false, e0_0, e0_1, e0_2, e0_3, e0_4], by simp only [upd_at, Nat.reduceEqDiff, if_true, if_false, e0_0, e0_1, e0_2, e0_3, e0_4], by simp only [upd_at, Nat.reduceEqDiff, if_true, if_false, e0_0, e0_1, e0_2, e0_3, e0_4]⟩
    ·skip
     have hge : sec.length * (Nd - 1) ≤ nz.length := by have := of_decide_eq_false c61; omega
     refine pwp_exit ?_
     try simp only [thenK, blockK, scopeK, if_true, Nat.reduceEqDiff, if_false]
     clear hN18 N18
     try simp only [blockK, scopeK, if_true, Nat.reduceEqDiff, if_false, thenK]
     try simp only [thenK, scopeK]
     refine hN17 _ ?_
     clear hN17 N17
     refine pwp_then fun N22 hN22 => ?_
     obtain ⟨nb, hnb⟩ : ∃ q, q = nz.take (sec.length * (Nd - 1)) := ⟨_, rfl⟩
     have hnbl : nb.length = sec.length * (Nd - 1) := by rw [hnb, List.length_take]; omega
     obtain ⟨L, hL⟩ : ∃ q, q = shU sec nb Nd M := ⟨_, rfl⟩
     have hLl : L.length = M := by rw [hL, shU_len]
     have hsh := shares_fun W0 sec nb Nd M (by omega) (by omega) (by omega) hs0 hs1 hnbl
     rw [← hL] at hsh
     refine pwp_reg fun R23 hR23 => ?_
     refine pops_mv (.inl rfl) rfl (by simp only [St.eval, upd_at, Nat.reduceEqDiff, if_true, if_false, e0_0, e0_1, e0_2, e0_3, e0_4] <;> rfl) ?_
     refine pops_mv (.inl rfl) rfl (by simp only [St.eval, upd_at, Nat.reduceEqDiff, if_true, if_false, e0_0, e0_1, e0_2, e0_3, e0_4] <;> rfl) ?_
     refine pops_mv (.inl rfl) rfl (by simp only [St.eval, upd_at, Nat.reduceEqDiff, if_true, if_false, e0_0, e0_1, e0_2, e0_3, e0_4] <;> rfl) ?_
     refine pops_to rfl fun M hM => ?_
     simp only [pop, St.eval, constSlot, upd_at, Nat.reduceEqDiff, if_true, if_false, popCall, List.toList_toArray, List.map_cons, List.map_nil, popBuiltin, popLen, lenOfSlot, List.length_map, Tryd.underlying9, eq_self, true_and, and_true, str_list, str_size, str_app, str_cut, str_get, e0_0, e0_1, e0_2, e0_3, e0_4]
     refine hM _ _ ?_
     clear hM M
     refine pops_mv (.inl rfl) rfl (by simp only [St.eval, upd_at, Nat.reduceEqDiff, if_true, if_false, e0_0, e0_1, e0_2, e0_3, e0_4] <;> rfl) ?_
     refine pops_to rfl fun M hM => ?_
     simp only [pop, St.eval, constSlot, upd_at, Nat.reduceEqDiff, if_true, if_false, popBin, binK, intK, strK, eqK, eq_self, true_and, and_true, e0_0, e0_1, e0_2, e0_3, e0_4, hw59]
     refine hM _ _ ?_
     clear hM M
     refine pops_to rfl fun M hM => ?_
     simp only [pop, St.eval, constSlot, upd_at, Nat.reduceEqDiff, if_true, if_false, popBin, binK, intK, strK, eqK, eq_self, true_and, and_true, e0_0, e0_1, e0_2, e0_3, e0_4, hw60]
     refine hM _ _ ?_
     clear hM M
     refine pops_to rfl fun M hM => ?_
     simp only [pop, St.eval, constSlot, upd_at, Nat.reduceEqDiff, if_true, if_false, popSlice, boundOf, Option.map_none, Option.map_some, Tryd.underlying9, eq_self, true_and, and_true, str_list, str_size, str_app, str_cut, str_get, e0_0, e0_1, e0_2, e0_3, e0_4, Int.toNat_natCast, show (0 : Int).toNat = 0 from rfl, List.drop_zero, ← hnb]
     refine ⟨Int.le_refl _, Int.natCast_nonneg _, by omega, hM _ _ ?_⟩
     clear hM M
     refine pops_mv (.inl rfl) rfl (by simp only [St.eval, upd_at, Nat.reduceEqDiff, if_true, if_false, e0_0, e0_1, e0_2, e0_3, e0_4] <;> rfl) ?_
     refine pops_mv (.inl rfl) rfl (by simp only [St.eval, upd_at, Nat.reduceEqDiff, if_true, if_false, e0_0, e0_1, e0_2, e0_3, e0_4] <;> rfl) ?_
     refine pops_to rfl fun M hM => ?_
     simp only [pop, St.eval, constSlot, upd_at, Nat.reduceEqDiff, if_true, if_false, popCall, List.toList_toArray, List.map_cons, List.map_nil, svs, List.mapM_cons, List.mapM_nil, Option.bind_eq_bind, Option.bind_some, Option.pure_def, List.append_nil, List.cons_append, List.nil_append, str_size, e0_0, e0_1, e0_2, e0_3, e0_4]
     refine PFun.use hsh fun h2 s2 => hM _ _ ?_
     replace s2 := Same.trans sl0 s2
     clear hM M
     refine pops_mv (.inl rfl) rfl (by simp only [St.eval, upd_at, Nat.reduceEqDiff, if_true, if_false, e0_0, e0_1, e0_2, e0_3, e0_4] <;> rfl) ?_
     refine pops_to rfl fun M hM => ?_
     simp only [pop, St.eval, constSlot, upd_at, Nat.reduceEqDiff, if_true, if_false, List.getElem?_toArray, List.getElem?_cons_zero, List.getElem?_cons_succ, e0_0, e0_1, e0_2, e0_3, e0_4]
     refine hM _ _ ?_
     clear hM M
     refine pops_to rfl fun M hM => ?_
     simp only [pop, St.eval, constSlot, upd_at, Nat.reduceEqDiff, if_true, if_false, List.getElem?_toArray, List.getElem?_cons_zero, List.getElem?_cons_succ, e0_0, e0_1, e0_2, e0_3, e0_4]
     refine hM _ _ ?_
     clear hM M
     refine pops_mv (.inr rfl) rfl (by simp only [St.eval, upd_at, Nat.reduceEqDiff, if_true, if_false, e0_0, e0_1, e0_2, e0_3, e0_4] <;> rfl) ?_
     refine pops_mv (.inr rfl) rfl (by simp only [St.eval, upd_at, Nat.reduceEqDiff, if_true, if_false, e0_0, e0_1, e0_2, e0_3, e0_4] <;> rfl) ?_
     refine pops_done (hR23 _ ?_)
     clear hR23 R23
     try simp only [thenK, scopeK]
     refine hN22 _ ?_
     clear hN22 N22
     refine pwp_then fun N24 hN24 => ?_
     refine pwp_then fun N25 hN25 => ?_
     refine pwp_reg fun R26 hR26 => ?_
     refine pops_mv (.inl rfl) rfl (by simp only [St.eval, upd_at, Nat.reduceEqDiff, if_true, if_false, e0_0, e0_1, e0_2, e0_3, e0_4] <;> rfl) ?_
     refine pops_to rfl fun M hM => ?_
     simp only [pop, St.eval, constSlot, upd_at, Nat.reduceEqDiff, if_true, if_false, popBin, binK, intK, strK, eqK, Tryd.underlying26, isPtr, eq_self, true_and, and_true, e0_0, e0_1, e0_2, e0_3, e0_4, show ((0 : Int) != 0) = false from rfl]
     refine hM _ _ ?_
     clear hM M
     refine pops_mv (.inl rfl) rfl (by simp only [St.eval, upd_at, Nat.reduceEqDiff, if_true, if_false, e0_0, e0_1, e0_2, e0_3, e0_4] <;> rfl) ?_
     refine pops_mvg (.inl rfl) rfl rfl (by simp only [upd_at, Nat.reduceEqDiff, if_true, if_false, e0_0, e0_1, e0_2, e0_3, e0_4]) (by simp only [St.eval, upd_at, Nat.reduceEqDiff, if_true, if_false, e0_0, e0_1, e0_2, e0_3, e0_4] <;> rfl) ?_
     refine pops_do rfl rfl (by simp only [upd_at, Nat.reduceEqDiff, if_true, if_false, e0_0, e0_1, e0_2, e0_3, e0_4]) fun M hM => ?_
     simp only [pop, St.eval, constSlot, upd_at, Nat.reduceEqDiff, if_true, if_false, popCall, List.toList_toArray, List.map_cons, List.map_nil, popBuiltin, popLen, lenOfSlot, List.length_map, Tryd.underlying25, eq_self, true_and, and_true, str_list, str_size, str_app, str_cut, str_get, e0_0, e0_1, e0_2, e0_3, e0_4, List.length_map, hLl]
     refine hM _ _ ?_
     clear hM M
     refine pops_mvg (.inl rfl) rfl rfl (by simp only [upd_at, Nat.reduceEqDiff, if_true, if_false, e0_0, e0_1, e0_2, e0_3, e0_4]) (by simp only [St.eval, upd_at, Nat.reduceEqDiff, if_true, if_false, e0_0, e0_1, e0_2, e0_3, e0_4] <;> rfl) ?_
     refine pops_do rfl rfl (by simp only [upd_at, Nat.reduceEqDiff, if_true, if_false, e0_0, e0_1, e0_2, e0_3, e0_4]) fun M hM => ?_
     simp only [pop, St.eval, constSlot, upd_at, Nat.reduceEqDiff, if_true, if_false, popBin, binK, intK, strK, eqK, Tryd.underlying3, isPtr, eq_self, true_and, and_true, e0_0, e0_1, e0_2, e0_3, e0_4, bne_self_eq_false]
     refine hM _ _ ?_
     clear hM M
     refine pops_to rfl fun M hM => ?_
     simp only [pop, St.eval, constSlot, upd_at, Nat.reduceEqDiff, if_true, if_false, popIf, true_implies, false_implies, Bool.true_eq_false, Bool.false_eq_true, reduceCtorEq, true_and, and_true, e0_0, e0_1, e0_2, e0_3, e0_4]
     refine hM _ _ ?_
     clear hM M
     refine pops_done (hR26 _ ?_)
     clear hR26 R26
     try simp only [thenK, scopeK]
     refine hN25 _ ?_
     clear hN25 N25
     refine pwp_cond_false (by simp only [St.eval, upd_at, Nat.reduceEqDiff, if_true, if_false, e0_0, e0_1, e0_2, e0_3, e0_4] <;> rfl) ?_
     refine pwp_skip ?_
     try simp only [thenK, scopeK]
     refine hN24 _ ?_
     clear hN24 N24
     refine pwp_then fun N27 hN27 => ?_
     refine pwp_reg fun R28 hR28 => ?_
     refine pops_mv (.inr rfl) rfl (by simp only [St.eval, constSlot] <;> rfl) ?_
     refine pops_done (hR28 _ ?_)
     clear hR28 R28
     try simp only [thenK, scopeK]
     refine hN27 _ ?_
     clear hN27 N27
     refine pwp_then fun N29 hN29 => ?_
     refine pwp_then fun N30 hN30 => ?_
     refine pwp_reg fun R31 hR31 => ?_
     refine pops_mv (.inl rfl) rfl (by simp only [St.eval, upd_at, Nat.reduceEqDiff, if_true, if_false, e0_0, e0_1, e0_2, e0_3, e0_4] <;> rfl) ?_
     refine pops_to rfl fun M hM => ?_
     simp only [pop, St.eval, constSlot, upd_at, Nat.reduceEqDiff, if_true, if_false, popCall, List.toList_toArray, List.map_cons, List.map_nil, popBuiltin, popLen, lenOfSlot, List.length_map, Tryd.underlying22, eq_self, true_and, and_true, str_list, str_size, str_app, str_cut, str_get, e0_0, e0_1, e0_2, e0_3, e0_4, List.length_map]
     refine hM _ _ ?_
     clear hM M
     refine pops_mv (.inl rfl) rfl (by simp only [St.eval, constSlot] <;> rfl) ?_
     refine pops_done (hR31 _ ?_)
     clear hR31 R31
     try simp only [thenK, scopeK]
     refine hN30 _ ?_
     clear hN30 N30
     refine pwp_block ?_
     refine pwp_loop (fun k σ => ∃ (i : Nat), ∃ (sl : Slot), ∃ (S : List (UInt8 × List UInt8)), (k = pick.length - i) ∧ (i ≤ pick.length) ∧ (S.length ≤ Nd) ∧ (S.Nodup) ∧ (∀ s ∈ S, s ∈ L) ∧ (Keeps h σ.hp ∧ RowIs 30 2 h σ.hp sl (S.map shPV)) ∧ (σ.env 0 = .sv (.one (pstr sec))) ∧ (σ.env 2 = .sv (.one (pint (Nd : Nat)))) ∧ (σ.env 3 = .sv (.one (pint (M : Nat)))) ∧ (σ.env 11 = .sv (.one (.ro false 2 (L.map shPV)))) ∧ (σ.env 13 = sl) ∧ (σ.env 87 = .sv (.one (.ro false 1 (pick.map fun z => [pint z])))) ∧ (σ.env 88 = .sv (.one (pint (pick.length : Nat)))) ∧ (σ.env 89 = .sv (.one (pint (i : Nat))))) _ ⟨_, .refl _ _, 0, (.sv (.one (.val (.slice none 0 0)))), [], rfl, ?_⟩ ?_
     · exact ⟨Nat.zero_le _, Nat.zero_le _, List.nodup_nil, by simp, ⟨Same.keeps s2, .nil _ _ _ _⟩, by simp only [upd_at, Nat.reduceEqDiff, if_true, if_false, e0_0, e0_1, e0_2, e0_3, e0_4], by simp only [upd_at, Nat.reduceEqDiff, if_true, if_false, e0_0, e0_1, e0_2, e0_3, e0_4], by simp only [upd_at, Nat.reduceEqDiff, if_true, if_false, e0_0, e0_1, e0_2, e0_3, e0_4], by simp only [upd_at, Nat.reduceEqDiff, if_true, if_false, e0_0, e0_1, e0_2, e0_3, e0_4], by simp only [upd_at, Nat.reduceEqDiff, if_true, if_false, e0_0, e0_1, e0_2, e0_3, e0_4], by simp only [upd_at, Nat.reduceEqDiff, if_true, if_false, e0_0, e0_1, e0_2, e0_3, e0_4], by first | rfl | (simp only [upd_at, Nat.reduceEqDiff, if_true, if_false]; rfl), by first | rfl | (simp only [upd_at, Nat.reduceEqDiff, if_true, if_false]; rfl)⟩
     ·rintro k ⟨e, hp1⟩ ⟨i, sl, S, hk1, hx1_0, hx1_1, hx1_2, hx1_3, sl1, e1_0, e1_2, e1_3, e1_11, e1_13, e1_87, e1_88, e1_89⟩
      simp only at sl1 e1_0 e1_2 e1_3 e1_11 e1_13 e1_87 e1_88 e1_89
      obtain ⟨hKa, hoa⟩ := sl1
      refine pwp_hpok fun hok1 => ?_
      simp only at hok1
      refine pwp_then fun N32 hN32 => ?_
      refine pwp_reg fun R33 hR33 => ?_
      refine pops_to rfl fun M hM => ?_
      simp only [pop, St.eval, constSlot, upd_at, Nat.reduceEqDiff, if_true, if_false, popBin, binK, intK, strK, eqK, eq_self, true_and, and_true, e1_0, e1_2, e1_3, e1_11, e1_13, e1_87, e1_88, e1_89, shPV]
      refine hM _ _ ?_
      clear hM M
      refine pops_done (hR33 _ ?_)
      clear hR33 R33
      try simp only [thenK, scopeK]
      refine hN32 _ ?_
      clear hN32 N32
      refine pwp_then fun N34 hN34 => ?_
      refine pwp_cond (by simp only [St.eval, upd_at, Nat.reduceEqDiff, if_true, if_false, e1_0, e1_2, e1_3, e1_11, e1_13, e1_87, e1_88, e1_89, shPV] <;> rfl) (fun c90 => ?_) (fun c90 => ?_)
      ·skip
       have hi : i < pick.length := by have := of_decide_eq_true c90; omega
       obtain ⟨z, hz⟩ : ∃ z, pick[i]? = some z := ⟨_, List.getElem?_eq_getElem hi⟩
       have hgz : (pick.map fun z => [pint z])[i]? = some [pint z] := by rw [List.getElem?_map, hz]; rfl
       obtain ⟨r3, hr3, hw98⟩ := mod_ex z M (by omega)
       obtain ⟨y, hy⟩ : ∃ x, L[r3]? = some x := ⟨_, List.getElem?_eq_getElem (by omega)⟩
       have hgy : (L.map shPV)[r3]? = some [.val (.int .i64 (y.1.toNat : Int)), pstr y.2] := by simp only [List.getElem?_map, hy, Option.map_some]
       obtain ⟨pS, rfl⟩ := hoa.one
       refine pwp_skip ?_
       try simp only [thenK, scopeK]
       refine hN34 _ ?_
       clear hN34 N34
       refine pwp_then fun N35 hN35 => ?_
       refine pwp_block ?_
       refine pwp_then fun N36 hN36 => ?_
       refine pwp_reg fun R37 hR37 => ?_
       refine pops_to rfl fun M hM => ?_
       simp only [pop, St.eval, constSlot, upd_at, Nat.reduceEqDiff, if_true, if_false, popIndexAddr, Tryd.underlying22, sz3, eq_self, true_and, and_true, str_list, str_size, str_app, str_cut, str_get, e1_0, e1_2, e1_3, e1_11, e1_13, e1_87, e1_88, e1_89, shPV, hgz, Int.toNat_natCast]
       refine ⟨Int.natCast_nonneg _, hM _ _ ?_⟩
       clear hM M
       refine pops_to rfl fun M hM => ?_
       simp only [pop, St.eval, constSlot, upd_at, Nat.reduceEqDiff, if_true, if_false, popLoad, loadK, isAggD, List.drop_zero, List.getElem?_toArray, List.getElem?_cons_zero, List.getElem?_cons_succ, Bool.false_eq_true, Tryd.underlying3, sz3, eq_self, true_and, and_true, e1_0, e1_2, e1_3, e1_11, e1_13, e1_87, e1_88, e1_89, shPV]
       refine hM _ _ ?_
       clear hM M
       refine pops_mv (.inr rfl) rfl (by simp only [St.eval, upd_at, Nat.reduceEqDiff, if_true, if_false, e1_0, e1_2, e1_3, e1_11, e1_13, e1_87, e1_88, e1_89, shPV] <;> rfl) ?_
       refine pops_done (hR37 _ ?_)
       clear hR37 R37
       try simp only [thenK, scopeK]
       refine hN36 _ ?_
       clear hN36 N36
       refine pwp_then fun N38 hN38 => ?_
       refine pwp_reg fun R39 hR39 => ?_
       refine pops_mv (.inl rfl) rfl (by simp only [St.eval, upd_at, Nat.reduceEqDiff, if_true, if_false, e1_0, e1_2, e1_3, e1_11, e1_13, e1_87, e1_88, e1_89, shPV] <;> rfl) ?_
       refine pops_mv (.inl rfl) rfl (by simp only [St.eval, upd_at, Nat.reduceEqDiff, if_true, if_false, e1_0, e1_2, e1_3, e1_11, e1_13, e1_87, e1_88, e1_89, shPV] <;> rfl) ?_
       refine pops_to rfl fun M hM => ?_
       simp only [pop, St.eval, constSlot, upd_at, Nat.reduceEqDiff, if_true, if_false, popConvert, Tryd.underlying3, Tryd.underlying24, eq_self, true_and, and_true, str_list, str_size, str_app, str_cut, str_get, e1_0, e1_2, e1_3, e1_11, e1_13, e1_87, e1_88, e1_89, shPV]
       refine hM _ _ ?_
       clear hM M
       refine pops_mv (.inl rfl) rfl (by simp only [St.eval, upd_at, Nat.reduceEqDiff, if_true, if_false, e1_0, e1_2, e1_3, e1_11, e1_13, e1_87, e1_88, e1_89, shPV] <;> rfl) ?_
       refine pops_to rfl fun M hM => ?_
       simp only [pop, St.eval, constSlot, upd_at, Nat.reduceEqDiff, if_true, if_false, popConvert, Tryd.underlying3, Tryd.underlying24, eq_self, true_and, and_true, str_list, str_size, str_app, str_cut, str_get, e1_0, e1_2, e1_3, e1_11, e1_13, e1_87, e1_88, e1_89, shPV, hw37]
       refine hM _ _ ?_
       clear hM M
       refine pops_to rfl fun M hM => ?_
       simp only [pop, St.eval, constSlot, upd_at, Nat.reduceEqDiff, if_true, if_false, popBin, binK, intK, strK, eqK, eq_self, true_and, and_true, e1_0, e1_2, e1_3, e1_11, e1_13, e1_87, e1_88, e1_89, shPV, hw98]
       refine ⟨by omega, hM _ _ ?_⟩
       clear hM M
       refine pops_to rfl fun M hM => ?_
       simp only [pop, St.eval, constSlot, upd_at, Nat.reduceEqDiff, if_true, if_false, popIndexAddr, Tryd.underlying25, sz30, eq_self, true_and, and_true, str_list, str_size, str_app, str_cut, str_get, e1_0, e1_2, e1_3, e1_11, e1_13, e1_87, e1_88, e1_89, shPV, hgy, Int.toNat_natCast]
       refine ⟨Int.natCast_nonneg _, hM _ _ ?_⟩
       clear hM M
       refine pops_to rfl fun M hM => ?_
       simp only [pop, St.eval, constSlot, upd_at, Nat.reduceEqDiff, if_true, if_false, List.length_cons, List.length_nil, Nat.zero_add, Nat.reduceAdd, Nat.reduceLeDiff, List.take_zero, List.take_succ_cons, List.take_nil, List.drop_succ_cons, List.drop_zero, List.drop_nil, List.nil_append, List.cons_append, List.append_nil, and_self, List.getElem?_cons_zero, List.getElem?_cons_succ, List.set_cons_zero, List.set_cons_succ, Option.some.injEq, popLoad, loadK, isAggD, List.drop_zero, List.getElem?_toArray, List.getElem?_cons_zero, List.getElem?_cons_succ, Bool.false_eq_true, Tryd.underlying30, sz30, eq_self, true_and, and_true, e1_0, e1_2, e1_3, e1_11, e1_13, e1_87, e1_88, e1_89, shPV]
       refine hM _ _ ?_
       clear hM M
       refine pops_var (hpOk.same hok1 (Same.refl _)) rfl ze30 (zs := [PV.val (.int .i64 0), PV.val (.string ⟨#[]⟩)]) (by kernel_rfl) (by simp) (by simp only [St.eval, constSlot, slotCells, upd_at, Nat.reduceEqDiff, if_true, if_false, e1_0, e1_2, e1_3, e1_11, e1_13, e1_87, e1_88, e1_89, shPV] <;> rfl) (by rfl) (by exact Nat.succ_pos _) (by rw [sz30]; rfl) (fun hv40 sv40 => ?_)
       refine pops_done (hR39 _ ?_)
       clear hR39 R39
       try simp only [thenK, scopeK]
       refine hN38 _ ?_
       clear hN38 N38
       refine pwp_then fun N41 hN41 => ?_
       refine pwp_reg fun R42 hR42 => ?_
       refine pops_mv (.inl rfl) rfl (by simp only [St.eval, upd_at, Nat.reduceEqDiff, if_true, if_false, e1_0, e1_2, e1_3, e1_11, e1_13, e1_87, e1_88, e1_89, shPV] <;> rfl) ?_
       refine pops_to rfl fun M hM => ?_
       simp only [pop, St.eval, constSlot, upd_at, Nat.reduceEqDiff, if_true, if_false, List.length_cons, List.length_nil, Nat.zero_add, Nat.reduceAdd, Nat.reduceLeDiff, List.take_zero, List.take_succ_cons, List.take_nil, List.drop_succ_cons, List.drop_zero, List.drop_nil, List.nil_append, List.cons_append, List.append_nil, and_self, List.getElem?_cons_zero, List.getElem?_cons_succ, List.set_cons_zero, List.set_cons_succ, Option.some.injEq, popLoad, loadK, isAggD, List.drop_zero, List.getElem?_toArray, List.getElem?_cons_zero, List.getElem?_cons_succ, Bool.false_eq_true, Tryd.underlying30, sz30, eq_self, true_and, and_true, e1_0, e1_2, e1_3, e1_11, e1_13, e1_87, e1_88, e1_89, shPV]
       refine hM _ _ ?_
       clear hM M
       refine pops_to rfl fun M hM => ?_
       simp only [pop, St.eval, constSlot, upd_at, Nat.reduceEqDiff, if_true, if_false, popCall, List.toList_toArray, List.map_cons, List.map_nil, svs, List.mapM_cons, List.mapM_nil, Option.bind_eq_bind, Option.bind_some, Option.pure_def, List.append_nil, List.cons_append, List.nil_append, str_size, e1_0, e1_2, e1_3, e1_11, e1_13, e1_87, e1_88, e1_89, shPV]
       refine (contains_own W0 y hb (hKa.trans (Same.keeps sv40)) (hoa.same sv40) (by omega)).mono ?_
       rintro _ h9 ⟨rfl, s9⟩
       replace s9 := Same.trans sv40 s9
       refine hM _ _ ?_
       clear hM M
       refine pops_to rfl fun M hM => ?_
       simp only [pop, St.eval, constSlot, upd_at, Nat.reduceEqDiff, if_true, if_false, unK, e1_0, e1_2, e1_3, e1_11, e1_13, e1_87, e1_88, e1_89, shPV]
       refine hM _ _ ?_
       clear hM M
       refine pops_mv (.inl rfl) rfl (by simp only [St.eval, upd_at, Nat.reduceEqDiff, if_true, if_false, e1_0, e1_2, e1_3, e1_11, e1_13, e1_87, e1_88, e1_89, shPV] <;> rfl) ?_
       apply pops_and0 5 105 110 [106, 107, 108, 109] (by simp only [upd_at, Nat.reduceEqDiff, if_true, if_false, e1_0, e1_2, e1_3, e1_11, e1_13, e1_87, e1_88, e1_89, shPV] <;> rfl)
       ·skip
        intro g105_0 J43 hJ43
        simp only [List.take_succ_cons, List.take_zero]
        simp only [anyAt_cons, anyAt_nil] at hJ43
        refine pops_mvg (.inl rfl) rfl rfl (by simp only [upd_at, Nat.reduceEqDiff, if_true, if_false, e1_0, e1_2, e1_3, e1_11, e1_13, e1_87, e1_88, e1_89, shPV, g105_0]) (by simp only [St.eval, upd_at, Nat.reduceEqDiff, if_true, if_false, e1_0, e1_2, e1_3, e1_11, e1_13, e1_87, e1_88, e1_89, shPV, g105_0] <;> rfl) ?_
        refine pops_do rfl rfl (by simp only [upd_at, Nat.reduceEqDiff, if_true, if_false, e1_0, e1_2, e1_3, e1_11, e1_13, e1_87, e1_88, e1_89, shPV, g105_0]) fun M hM => ?_
        simp only [pop, St.eval, constSlot, upd_at, Nat.reduceEqDiff, if_true, if_false, popCall, List.toList_toArray, List.map_cons, List.map_nil, popBuiltin, eq_self, true_and, and_true, str_list, str_size, str_app, str_cut, str_get, e1_0, e1_2, e1_3, e1_11, e1_13, e1_87, e1_88, e1_89, shPV, g105_0]
        refine row_len Tryd.underlying25 (hoa.same s9) ?_
        rw [List.length_map]
        refine hM _ _ ?_
        clear hM M
        refine pops_mvg (.inl rfl) rfl rfl (by simp only [upd_at, Nat.reduceEqDiff, if_true, if_false, e1_0, e1_2, e1_3, e1_11, e1_13, e1_87, e1_88, e1_89, shPV, g105_0]) (by simp only [St.eval, upd_at, Nat.reduceEqDiff, if_true, if_false, e1_0, e1_2, e1_3, e1_11, e1_13, e1_87, e1_88, e1_89, shPV, g105_0] <;> rfl) ?_
        refine pops_do rfl rfl (by simp only [upd_at, Nat.reduceEqDiff, if_true, if_false, e1_0, e1_2, e1_3, e1_11, e1_13, e1_87, e1_88, e1_89, shPV, g105_0]) fun M hM => ?_
        simp only [pop, St.eval, constSlot, upd_at, Nat.reduceEqDiff, if_true, if_false, popBin, binK, intK, strK, eqK, eq_self, true_and, and_true, e1_0, e1_2, e1_3, e1_11, e1_13, e1_87, e1_88, e1_89, shPV, g105_0]
        refine hM _ _ ?_
        clear hM M
        refine pops_to rfl fun M hM => ?_
        simp only [pop, St.eval, constSlot, upd_at, Nat.reduceEqDiff, if_true, if_false, popIf, true_implies, false_implies, Bool.true_eq_false, Bool.false_eq_true, reduceCtorEq, true_and, and_true, e1_0, e1_2, e1_3, e1_11, e1_13, e1_87, e1_88, e1_89, shPV, g105_0]
        refine hM _ _ ?_
        clear hM M
        exact pops_done (hJ43 _ (wk_same (wk_any ((wk_any ((wk_any ((wk_any (Wk.refl _ _))))))))))
       ·skip
        intro g105_0 J43 hJ43
        simp only [List.take_succ_cons, List.take_zero]
        simp only [anyAt_cons, anyAt_nil] at hJ43
        refine pops_off (b := false) rfl rfl (by simp only [upd_at, Nat.reduceEqDiff, if_true, if_false, e1_0, e1_2, e1_3, e1_11, e1_13, e1_87, e1_88, e1_89, shPV, g105_0]) (by decide) ?_
        refine pops_off (b := false) rfl rfl (by simp only [upd_at, Nat.reduceEqDiff, if_true, if_false, e1_0, e1_2, e1_3, e1_11, e1_13, e1_87, e1_88, e1_89, shPV, g105_0]) (by decide) ?_
        refine pops_off (b := false) rfl rfl (by simp only [upd_at, Nat.reduceEqDiff, if_true, if_false, e1_0, e1_2, e1_3, e1_11, e1_13, e1_87, e1_88, e1_89, shPV, g105_0]) (by decide) ?_
        refine pops_off (b := false) rfl rfl (by simp only [upd_at, Nat.reduceEqDiff, if_true, if_false, e1_0, e1_2, e1_3, e1_11, e1_13, e1_87, e1_88, e1_89, shPV, g105_0]) (by decide) ?_
        refine pops_to rfl fun M hM => ?_
        simp only [pop, St.eval, constSlot, upd_at, Nat.reduceEqDiff, if_true, if_false, popIf, true_implies, false_implies, Bool.true_eq_false, Bool.false_eq_true, reduceCtorEq, true_and, and_true, e1_0, e1_2, e1_3, e1_11, e1_13, e1_87, e1_88, e1_89, shPV, g105_0]
        refine hM _ _ ?_
        clear hM M
        exact pops_done (hJ43 _ (wk_same (wk_any ((wk_any ((wk_any ((wk_any (Wk.refl _ _))))))))))
       simp only [List.drop_succ_cons, List.drop_zero, anyAt_cons, anyAt_nil]
       refine pops_done (hR42 _ ?_)
       clear hR42 R42
       try simp only [thenK, scopeK]
       refine hN41 _ ?_
       clear hN41 N41
       refine pwp_cond (by simp only [St.eval, upd_at, Nat.reduceEqDiff, if_true, if_false, e1_0, e1_2, e1_3, e1_11, e1_13, e1_87, e1_88, e1_89, shPV] <;> rfl) (fun c110 => ?_) (fun c110 => ?_)
       ·skip
        simp only [Bool.and_eq_true, Bool.not_eq_true', decide_eq_true_eq] at c110
        have hlt : S.length < Nd := by omega
        have hny : y ∉ S := fun hmem => by
          have := c110.1
          rw [List.contains_eq_mem, decide_eq_false_iff_not] at this
          exact this hmem
        refine pwp_reg fun R44 hR44 => ?_
        refine pops_mv (.inl rfl) rfl (by simp only [St.eval, upd_at, Nat.reduceEqDiff, if_true, if_false, e1_0, e1_2, e1_3, e1_11, e1_13, e1_87, e1_88, e1_89, shPV] <;> rfl) ?_
        refine pops_to rfl fun M hM => ?_
        simp only [pop, St.eval, constSlot, upd_at, Nat.reduceEqDiff, if_true, if_false, List.length_cons, List.length_nil, Nat.zero_add, Nat.reduceAdd, Nat.reduceLeDiff, List.take_zero, List.take_succ_cons, List.take_nil, List.drop_succ_cons, List.drop_zero, List.drop_nil, List.nil_append, List.cons_append, List.append_nil, and_self, List.getElem?_cons_zero, List.getElem?_cons_succ, List.set_cons_zero, List.set_cons_succ, Option.some.injEq, popLoad, loadK, isAggD, List.drop_zero, List.getElem?_toArray, List.getElem?_cons_zero, List.getElem?_cons_succ, Bool.false_eq_true, Tryd.underlying30, sz30, eq_self, true_and, and_true, e1_0, e1_2, e1_3, e1_11, e1_13, e1_87, e1_88, e1_89, shPV]
        refine hM _ _ ?_
        clear hM M
        refine pops_to rfl fun M hM => ?_
        simp only [pop, St.eval, constSlot, upd_at, Nat.reduceEqDiff, if_true, if_false, popBuildSlice, slotCells, List.toList_toArray, List.map_cons, List.map_nil, List.mapM_cons, List.mapM_nil, Option.bind_eq_bind, Option.bind_some, Option.pure_def, Tryd.underlying25, sz30, ze30, by30, eq_self, true_and, and_true, str_list, str_size, str_app, str_cut, str_get, e1_0, e1_2, e1_3, e1_11, e1_13, e1_87, e1_88, e1_89, shPV]
        refine ⟨by decide, by decide, rfl, rfl, by simp, by decide, rfl, hM _ _ ?_⟩
        clear hM M
        refine pops_to rfl fun M hM => ?_
        simp only [pop, St.eval, constSlot, upd_at, Nat.reduceEqDiff, if_true, if_false, popCall, List.toList_toArray, List.map_cons, List.map_nil, popBuiltin, eq_self, true_and, and_true, str_list, str_size, str_app, str_cut, str_get, e1_0, e1_2, e1_3, e1_11, e1_13, e1_87, e1_88, e1_89, shPV]
        refine row_app (ys := [shPV y]) hb Tryd.underlying25 sz30 by30 ze30 rfl (by decide) (hoa.same s9) (hKa.trans (Same.keeps s9)) rfl (.inr rfl) ⟨by simp only [List.length_map, List.length_cons, List.length_nil]; omega, by simp only [List.length_map, List.length_cons, List.length_nil]; omega⟩ fun sl2 hpn1 hon1 hkn1 => hM _ _ ?_
        clear hM M
        refine pops_mv (.inr rfl) rfl (by simp only [St.eval, upd_at, Nat.reduceEqDiff, if_true, if_false, e1_0, e1_2, e1_3, e1_11, e1_13, e1_87, e1_88, e1_89, shPV] <;> rfl) ?_
        refine pops_done (hR44 _ ?_)
        clear hR44 R44
        try simp only [blockK, thenK, scopeK]
        try simp only [thenK, scopeK]
        refine hN35 _ ?_
        clear hN35 N35
        refine pwp_reg fun R45 hR45 => ?_
        refine pops_to rfl fun M hM => ?_
        simp only [pop, St.eval, constSlot, upd_at, Nat.reduceEqDiff, if_true, if_false, popBin, binK, intK, strK, eqK, eq_self, true_and, and_true, e1_0, e1_2, e1_3, e1_11, e1_13, e1_87, e1_88, e1_89, shPV]
        refine hM _ _ ?_
        clear hM M
        refine pops_mv (.inl rfl) rfl (by simp only [St.eval, upd_at, Nat.reduceEqDiff, if_true, if_false, e1_0, e1_2, e1_3, e1_11, e1_13, e1_87, e1_88, e1_89, shPV] <;> rfl) ?_
        refine pops_done (hR45 _ ?_)
        clear hR45 R45
        try simp only [thenK, scopeK]
        exact ⟨_, by omega, _, .refl _ _, i + 1, sl2, (S ++ [y]), rfl, by omega, by rw [List.length_append]; exact hlt, List.nodup_append.2 ⟨hx1_2, List.pairwise_singleton _ _, fun a ha b hb9 e => hny (by rw [List.mem_singleton.1 hb9] at e; rw [← e]; exact ha)⟩, fun s hs9 => by rcases List.mem_append.1 hs9 with h9 | h9; exact hx1_3 s h9; rw [List.mem_singleton.1 h9]; exact List.mem_of_getElem? hy, ⟨hkn1, by rw [List.map_append]; exact hon1⟩, by simp only [upd_at, Nat.reduceEqDiff, if_true, if_false, e1_0, e1_2, e1_3, e1_11, e1_13, e1_87, e1_88, e1_89, shPV], by simp only [upd_at, Nat.reduceEqDiff, if_true, if_false, e1_0, e1_2, e1_3, e1_11, e1_13, e1_87, e1_88, e1_89, shPV], by simp only [upd_at, Nat.reduceEqDiff, if_true, if_false, e1_0, e1_2, e1_3, e1_11, e1_13, e1_87, e1_88, e1_89, shPV], by simp only [upd_at, Nat.reduceEqDiff, if_true, if_false, e1_0, e1_2, e1_3, e1_11, e1_13, e1_87, e1_88, e1_89, shPV], by simp only [upd_at, Nat.reduceEqDiff, if_true, if_false, e1_0, e1_2, e1_3, e1_11, e1_13, e1_87, e1_88, e1_89, shPV], by simp only [upd_at, Nat.reduceEqDiff, if_true, if_false, e1_0, e1_2, e1_3, e1_11, e1_13, e1_87, e1_88, e1_89, shPV], by simp only [upd_at, Nat.reduceEqDiff, if_true, if_false, e1_0, e1_2, e1_3, e1_11, e1_13, e1_87, e1_88, e1_89, shPV], by simp only [upd_at, Nat.reduceEqDiff, if_true, if_false, e1_89]; rw [wrap_succ (by omega)]⟩
       ·skip
        have hful : S.length = Nd ∨ y ∈ S := by
          by_cases hmem : y ∈ S
          · exact .inr hmem
          · left
            have h1 : S.contains y = false := by rw [List.contains_eq_mem, decide_eq_false_iff_not]; exact hmem
            rw [h1] at c110
            simp at c110
            omega
        refine pwp_skip ?_
        try simp only [blockK, thenK, scopeK]
        try simp only [thenK, scopeK]
        refine hN35 _ ?_
        clear hN35 N35
        refine pwp_reg fun R46 hR46 => ?_
        refine pops_to rfl fun M hM => ?_
        simp only [pop, St.eval, constSlot, upd_at, Nat.reduceEqDiff, if_true, if_false, popBin, binK, intK, strK, eqK, eq_self, true_and, and_true, e1_0, e1_2, e1_3, e1_11, e1_13, e1_87, e1_88, e1_89, shPV]
        refine hM _ _ ?_
        clear hM M
        refine pops_mv (.inl rfl) rfl (by simp only [St.eval, upd_at, Nat.reduceEqDiff, if_true, if_false, e1_0, e1_2, e1_3, e1_11, e1_13, e1_87, e1_88, e1_89, shPV] <;> rfl) ?_
        refine pops_done (hR46 _ ?_)
        clear hR46 R46
        try simp only [thenK, scopeK]
        exact ⟨_, by omega, _, .refl _ _, i + 1, (.sv (.one pS)), S, rfl, by omega, hx1_1, hx1_2, hx1_3, ⟨hKa.trans (Same.keeps s9), hoa.same s9⟩, by simp only [upd_at, Nat.reduceEqDiff, if_true, if_false, e1_0, e1_2, e1_3, e1_11, e1_13, e1_87, e1_88, e1_89, shPV], by simp only [upd_at, Nat.reduceEqDiff, if_true, if_false, e1_0, e1_2, e1_3, e1_11, e1_13, e1_87, e1_88, e1_89, shPV], by simp only [upd_at, Nat.reduceEqDiff, if_true, if_false, e1_0, e1_2, e1_3, e1_11, e1_13, e1_87, e1_88, e1_89, shPV], by simp only [upd_at, Nat.reduceEqDiff, if_true, if_false, e1_0, e1_2, e1_3, e1_11, e1_13, e1_87, e1_88, e1_89, shPV], by simp only [upd_at, Nat.reduceEqDiff, if_true, if_false, e1_0, e1_2, e1_3, e1_11, e1_13, e1_87, e1_88, e1_89, shPV], by simp only [upd_at, Nat.reduceEqDiff, if_true, if_false, e1_0, e1_2, e1_3, e1_11, e1_13, e1_87, e1_88, e1_89, shPV], by simp only [upd_at, Nat.reduceEqDiff, if_true, if_false, e1_0, e1_2, e1_3, e1_11, e1_13, e1_87, e1_88, e1_89, shPV], by simp only [upd_at, Nat.reduceEqDiff, if_true, if_false, e1_89]; rw [wrap_succ (by omega)]⟩
      ·skip
       refine pwp_exit ?_
       try simp only [thenK, blockK, scopeK, if_true, Nat.reduceEqDiff, if_false]
       clear hN34 N34
       try simp only [blockK, scopeK, if_true, Nat.reduceEqDiff, if_false, thenK]
       try simp only [thenK, scopeK]
       refine hN29 _ ?_
       clear hN29 N29
       refine pwp_then fun N47 hN47 => ?_
       refine pwp_then fun N48 hN48 => ?_
       refine pwp_reg fun R49 hR49 => ?_
       refine pops_mv (.inl rfl) rfl (by simp only [St.eval, upd_at, Nat.reduceEqDiff, if_true, if_false, e1_0, e1_2, e1_3, e1_11, e1_13, e1_87, e1_88, e1_89, shPV] <;> rfl) ?_
       refine pops_to rfl fun M hM => ?_
       simp only [pop, St.eval, constSlot, upd_at, Nat.reduceEqDiff, if_true, if_false, popCall, List.toList_toArray, List.map_cons, List.map_nil, popBuiltin, popLen, lenOfSlot, List.length_map, Tryd.underlying25, eq_self, true_and, and_true, str_list, str_size, str_app, str_cut, str_get, e1_0, e1_2, e1_3, e1_11, e1_13, e1_87, e1_88, e1_89, shPV, List.length_map, hLl]
       refine hM _ _ ?_
       clear hM M
       refine pops_mv (.inl rfl) rfl (by simp only [St.eval, constSlot] <;> rfl) ?_
       refine pops_done (hR49 _ ?_)
       clear hR49 R49
       try simp only [thenK, scopeK]
       refine hN48 _ ?_
       clear hN48 N48
       refine pwp_block ?_
       refine pwp_loop (fun k σ => ∃ (i : Nat), ∃ (sl : Slot), ∃ (S : List (UInt8 × List UInt8)), (k = M - i) ∧ (i ≤ M) ∧ (S.length ≤ Nd) ∧ (S.Nodup) ∧ (∀ s ∈ S, s ∈ L) ∧ (S.length = Nd ∨ ∀ q ∈ L.take i, q ∈ S) ∧ (Keeps h σ.hp ∧ RowIs 30 2 h σ.hp sl (S.map shPV)) ∧ (σ.env 0 = .sv (.one (pstr sec))) ∧ (σ.env 2 = .sv (.one (pint (Nd : Nat)))) ∧ (σ.env 13 = sl) ∧ (σ.env 116 = .sv (.one (.ro false 2 (L.map shPV)))) ∧ (σ.env 117 = .sv (.one (pint (M : Nat)))) ∧ (σ.env 118 = .sv (.one (pint (i : Nat))))) _ ⟨_, .refl _ _, 0, sl, S, rfl, ?_⟩ ?_
       · exact ⟨Nat.zero_le _, hx1_1, hx1_2, hx1_3, .inr (by simp), ⟨hKa.trans (Same.keeps (Same.refl _)), hoa.same (Same.refl _)⟩, by simp only [upd_at, Nat.reduceEqDiff, if_true, if_false, e1_0, e1_2, e1_3, e1_11, e1_13, e1_87, e1_88, e1_89, shPV], by simp only [upd_at, Nat.reduceEqDiff, if_true, if_false, e1_0, e1_2, e1_3, e1_11, e1_13, e1_87, e1_88, e1_89, shPV], by simp only [upd_at, Nat.reduceEqDiff, if_true, if_false, e1_0, e1_2, e1_3, e1_11, e1_13, e1_87, e1_88, e1_89, shPV], by simp only [upd_at, Nat.reduceEqDiff, if_true, if_false, e1_0, e1_2, e1_3, e1_11, e1_13, e1_87, e1_88, e1_89, shPV], by simp only [upd_at, Nat.reduceEqDiff, if_true, if_false, e1_0, e1_2, e1_3, e1_11, e1_13, e1_87, e1_88, e1_89, shPV], by first | rfl | (simp only [upd_at, Nat.reduceEqDiff, if_true, if_false]; rfl)⟩
       ·rintro k ⟨e, hp2⟩ ⟨i, sl, S, hk2, hx2_0, hx2_1, hx2_2, hx2_3, hx2_4, sl2, e2_0, e2_2, e2_13, e2_116, e2_117, e2_118⟩
        simp only at sl2 e2_0 e2_2 e2_13 e2_116 e2_117 e2_118
        obtain ⟨hKb, hob⟩ := sl2
        refine pwp_hpok fun hok2 => ?_
        simp only at hok2
        refine pwp_then fun N50 hN50 => ?_
        refine pwp_reg fun R51 hR51 => ?_
        refine pops_to rfl fun M hM => ?_
        simp only [pop, St.eval, constSlot, upd_at, Nat.reduceEqDiff, if_true, if_false, popBin, binK, intK, strK, eqK, eq_self, true_and, and_true, e2_0, e2_2, e2_13, e2_116, e2_117, e2_118, shPV]
        refine hM _ _ ?_
        clear hM M
        refine pops_done (hR51 _ ?_)
        clear hR51 R51
        try simp only [thenK, scopeK]
        refine hN50 _ ?_
        clear hN50 N50
        refine pwp_then fun N52 hN52 => ?_
        refine pwp_cond (by simp only [St.eval, upd_at, Nat.reduceEqDiff, if_true, if_false, e2_0, e2_2, e2_13, e2_116, e2_117, e2_118, shPV] <;> rfl) (fun c119 => ?_) (fun c119 => ?_)
        ·skip
         have hi : i < M := by have := of_decide_eq_true c119; omega
         obtain ⟨y, hy⟩ : ∃ x, L[i]? = some x := ⟨_, List.getElem?_eq_getElem (by omega)⟩
         have hgy : (L.map shPV)[i]? = some [.val (.int .i64 (y.1.toNat : Int)), pstr y.2] := by simp only [List.getElem?_map, hy, Option.map_some]
         obtain ⟨pS, rfl⟩ := hob.one
         refine pwp_skip ?_
         try simp only [thenK, scopeK]
         refine hN52 _ ?_
         clear hN52 N52
         refine pwp_then fun N53 hN53 => ?_
         refine pwp_block ?_
         refine pwp_then fun N54 hN54 => ?_
         refine pwp_reg fun R55 hR55 => ?_
         refine pops_to rfl fun M hM => ?_
         simp only [pop, St.eval, constSlot, upd_at, Nat.reduceEqDiff, if_true, if_false, popIndexAddr, Tryd.underlying25, sz30, eq_self, true_and, and_true, str_list, str_size, str_app, str_cut, str_get, e2_0, e2_2, e2_13, e2_116, e2_117, e2_118, shPV, hgy, Int.toNat_natCast]
         refine ⟨Int.natCast_nonneg _, hM _ _ ?_⟩
         clear hM M
         refine pops_to rfl fun M hM => ?_
         simp only [pop, St.eval, constSlot, upd_at, Nat.reduceEqDiff, if_true, if_false, List.length_cons, List.length_nil, Nat.zero_add, Nat.reduceAdd, Nat.reduceLeDiff, List.take_zero, List.take_succ_cons, List.take_nil, List.drop_succ_cons, List.drop_zero, List.drop_nil, List.nil_append, List.cons_append, List.append_nil, and_self, List.getElem?_cons_zero, List.getElem?_cons_succ, List.set_cons_zero, List.set_cons_succ, Option.some.injEq, popLoad, loadK, isAggD, List.drop_zero, List.getElem?_toArray, List.getElem?_cons_zero, List.getElem?_cons_succ, Bool.false_eq_true, Tryd.underlying30, sz30, eq_self, true_and, and_true, e2_0, e2_2, e2_13, e2_116, e2_117, e2_118, shPV]
         refine hM _ _ ?_
         clear hM M
         refine pops_var (hpOk.same hok2 (Same.refl _)) rfl ze30 (zs := [PV.val (.int .i64 0), PV.val (.string ⟨#[]⟩)]) (by kernel_rfl) (by simp) (by simp only [St.eval, constSlot, slotCells, upd_at, Nat.reduceEqDiff, if_true, if_false, e2_0, e2_2, e2_13, e2_116, e2_117, e2_118, shPV] <;> rfl) (by rfl) (by exact Nat.succ_pos _) (by rw [sz30]; rfl) (fun hv56 sv56 => ?_)
         refine pops_done (hR55 _ ?_)
         clear hR55 R55
         try simp only [thenK, scopeK]
         refine hN54 _ ?_
         clear hN54 N54
         refine pwp_then fun N57 hN57 => ?_
         refine pwp_reg fun R58 hR58 => ?_
         refine pops_mv (.inl rfl) rfl (by simp only [St.eval, upd_at, Nat.reduceEqDiff, if_true, if_false, e2_0, e2_2, e2_13, e2_116, e2_117, e2_118, shPV] <;> rfl) ?_
         refine pops_to rfl fun M hM => ?_
         simp only [pop, St.eval, constSlot, upd_at, Nat.reduceEqDiff, if_true, if_false, List.length_cons, List.length_nil, Nat.zero_add, Nat.reduceAdd, Nat.reduceLeDiff, List.take_zero, List.take_succ_cons, List.take_nil, List.drop_succ_cons, List.drop_zero, List.drop_nil, List.nil_append, List.cons_append, List.append_nil, and_self, List.getElem?_cons_zero, List.getElem?_cons_succ, List.set_cons_zero, List.set_cons_succ, Option.some.injEq, popLoad, loadK, isAggD, List.drop_zero, List.getElem?_toArray, List.getElem?_cons_zero, List.getElem?_cons_succ, Bool.false_eq_true, Tryd.underlying30, sz30, eq_self, true_and, and_true, e2_0, e2_2, e2_13, e2_116, e2_117, e2_118, shPV]
         refine hM _ _ ?_
         clear hM M
         refine pops_to rfl fun M hM => ?_
         simp only [pop, St.eval, constSlot, upd_at, Nat.reduceEqDiff, if_true, if_false, popCall, List.toList_toArray, List.map_cons, List.map_nil, svs, List.mapM_cons, List.mapM_nil, Option.bind_eq_bind, Option.bind_some, Option.pure_def, List.append_nil, List.cons_append, List.nil_append, str_size, e2_0, e2_2, e2_13, e2_116, e2_117, e2_118, shPV]
         refine (contains_own W0 y hb (hKb.trans (Same.keeps sv56)) (hob.same sv56) (by omega)).mono ?_
         rintro _ h9 ⟨rfl, s9⟩
         replace s9 := Same.trans sv56 s9
         refine hM _ _ ?_
         clear hM M
         refine pops_to rfl fun M hM => ?_
         simp only [pop, St.eval, constSlot, upd_at, Nat.reduceEqDiff, if_true, if_false, unK, e2_0, e2_2, e2_13, e2_116, e2_117, e2_118, shPV]
         refine hM _ _ ?_
         clear hM M
         refine pops_mv (.inl rfl) rfl (by simp only [St.eval, upd_at, Nat.reduceEqDiff, if_true, if_false, e2_0, e2_2, e2_13, e2_116, e2_117, e2_118, shPV] <;> rfl) ?_
         apply pops_and0 5 126 131 [127, 128, 129, 130] (by simp only [upd_at, Nat.reduceEqDiff, if_true, if_false, e2_0, e2_2, e2_13, e2_116, e2_117, e2_118, shPV] <;> rfl)
         ·skip
          intro g126_0 J59 hJ59
          simp only [List.take_succ_cons, List.take_zero]
          simp only [anyAt_cons, anyAt_nil] at hJ59
          refine pops_mvg (.inl rfl) rfl rfl (by simp only [upd_at, Nat.reduceEqDiff, if_true, if_false, e2_0, e2_2, e2_13, e2_116, e2_117, e2_118, shPV, g126_0]) (by simp only [St.eval, upd_at, Nat.reduceEqDiff, if_true, if_false, e2_0, e2_2, e2_13, e2_116, e2_117, e2_118, shPV, g126_0] <;> rfl) ?_
          refine pops_do rfl rfl (by simp only [upd_at, Nat.reduceEqDiff, if_true, if_false, e2_0, e2_2, e2_13, e2_116, e2_117, e2_118, shPV, g126_0]) fun M hM => ?_
          simp only [pop, St.eval, constSlot, upd_at, Nat.reduceEqDiff, if_true, if_false, popCall, List.toList_toArray, List.map_cons, List.map_nil, popBuiltin, eq_self, true_and, and_true, str_list, str_size, str_app, str_cut, str_get, e2_0, e2_2, e2_13, e2_116, e2_117, e2_118, shPV, g126_0]
          refine row_len Tryd.underlying25 (hob.same s9) ?_
          rw [List.length_map]
          refine hM _ _ ?_
          clear hM M
          refine pops_mvg (.inl rfl) rfl rfl (by simp only [upd_at, Nat.reduceEqDiff, if_true, if_false, e2_0, e2_2, e2_13, e2_116, e2_117, e2_118, shPV, g126_0]) (by simp only [St.eval, upd_at, Nat.reduceEqDiff, if_true, if_false, e2_0, e2_2, e2_13, e2_116, e2_117, e2_118, shPV, g126_0] <;> rfl) ?_
          refine pops_do rfl rfl (by simp only [upd_at, Nat.reduceEqDiff, if_true, if_false, e2_0, e2_2, e2_13, e2_116, e2_117, e2_118, shPV, g126_0]) fun M hM => ?_
          simp only [pop, St.eval, constSlot, upd_at, Nat.reduceEqDiff, if_true, if_false, popBin, binK, intK, strK, eqK, eq_self, true_and, and_true, e2_0, e2_2, e2_13, e2_116, e2_117, e2_118, shPV, g126_0]
          refine hM _ _ ?_
          clear hM M
          refine pops_to rfl fun M hM => ?_
          simp only [pop, St.eval, constSlot, upd_at, Nat.reduceEqDiff, if_true, if_false, popIf, true_implies, false_implies, Bool.true_eq_false, Bool.false_eq_true, reduceCtorEq, true_and, and_true, e2_0, e2_2, e2_13, e2_116, e2_117, e2_118, shPV, g126_0]
          refine hM _ _ ?_
          clear hM M
          exact pops_done (hJ59 _ (wk_same (wk_any ((wk_any ((wk_any ((wk_any (Wk.refl _ _))))))))))
         ·skip
          intro g126_0 J59 hJ59
          simp only [List.take_succ_cons, List.take_zero]
          simp only [anyAt_cons, anyAt_nil] at hJ59
          refine pops_off (b := false) rfl rfl (by simp only [upd_at, Nat.reduceEqDiff, if_true, if_false, e2_0, e2_2, e2_13, e2_116, e2_117, e2_118, shPV, g126_0]) (by decide) ?_
          refine pops_off (b := false) rfl rfl (by simp only [upd_at, Nat.reduceEqDiff, if_true, if_false, e2_0, e2_2, e2_13, e2_116, e2_117, e2_118, shPV, g126_0]) (by decide) ?_
          refine pops_off (b := false) rfl rfl (by simp only [upd_at, Nat.reduceEqDiff, if_true, if_false, e2_0, e2_2, e2_13, e2_116, e2_117, e2_118, shPV, g126_0]) (by decide) ?_
          refine pops_off (b := false) rfl rfl (by simp only [upd_at, Nat.reduceEqDiff, if_true, if_false, e2_0, e2_2, e2_13, e2_116, e2_117, e2_118, shPV, g126_0]) (by decide) ?_
          refine pops_to rfl fun M hM => ?_
          simp only [pop, St.eval, constSlot, upd_at, Nat.reduceEqDiff, if_true, if_false, popIf, true_implies, false_implies, Bool.true_eq_false, Bool.false_eq_true, reduceCtorEq, true_and, and_true, e2_0, e2_2, e2_13, e2_116, e2_117, e2_118, shPV, g126_0]
          refine hM _ _ ?_
          clear hM M
          exact pops_done (hJ59 _ (wk_same (wk_any ((wk_any ((wk_any ((wk_any (Wk.refl _ _))))))))))
         simp only [List.drop_succ_cons, List.drop_zero, anyAt_cons, anyAt_nil]
         refine pops_done (hR58 _ ?_)
         clear hR58 R58
         try simp only [thenK, scopeK]
         refine hN57 _ ?_
         clear hN57 N57
         refine pwp_cond (by simp only [St.eval, upd_at, Nat.reduceEqDiff, if_true, if_false, e2_0, e2_2, e2_13, e2_116, e2_117, e2_118, shPV] <;> rfl) (fun c131 => ?_) (fun c131 => ?_)
         ·skip
          simp only [Bool.and_eq_true, Bool.not_eq_true', decide_eq_true_eq] at c131
          have hlt : S.length < Nd := by omega
          have hny : y ∉ S := fun hmem => by
            have := c131.1
            rw [List.contains_eq_mem, decide_eq_false_iff_not] at this
            exact this hmem
          refine pwp_reg fun R60 hR60 => ?_
          refine pops_mv (.inl rfl) rfl (by simp only [St.eval, upd_at, Nat.reduceEqDiff, if_true, if_false, e2_0, e2_2, e2_13, e2_116, e2_117, e2_118, shPV] <;> rfl) ?_
          refine pops_to rfl fun M hM => ?_
          simp only [pop, St.eval, constSlot, upd_at, Nat.reduceEqDiff, if_true, if_false, List.length_cons, List.length_nil, Nat.zero_add, Nat.reduceAdd, Nat.reduceLeDiff, List.take_zero, List.take_succ_cons, List.take_nil, List.drop_succ_cons, List.drop_zero, List.drop_nil, List.nil_append, List.cons_append, List.append_nil, and_self, List.getElem?_cons_zero, List.getElem?_cons_succ, List.set_cons_zero, List.set_cons_succ, Option.some.injEq, popLoad, loadK, isAggD, List.drop_zero, List.getElem?_toArray, List.getElem?_cons_zero, List.getElem?_cons_succ, Bool.false_eq_true, Tryd.underlying30, sz30, eq_self, true_and, and_true, e2_0, e2_2, e2_13, e2_116, e2_117, e2_118, shPV]
          refine hM _ _ ?_
          clear hM M
          refine pops_to rfl fun M hM => ?_
          simp only [pop, St.eval, constSlot, upd_at, Nat.reduceEqDiff, if_true, if_false, popBuildSlice, slotCells, List.toList_toArray, List.map_cons, List.map_nil, List.mapM_cons, List.mapM_nil, Option.bind_eq_bind, Option.bind_some, Option.pure_def, Tryd.underlying25, sz30, ze30, by30, eq_self, true_and, and_true, str_list, str_size, str_app, str_cut, str_get, e2_0, e2_2, e2_13, e2_116, e2_117, e2_118, shPV]
          refine ⟨by decide, by decide, rfl, rfl, by simp, by decide, rfl, hM _ _ ?_⟩
          clear hM M
          refine pops_to rfl fun M hM => ?_
          simp only [pop, St.eval, constSlot, upd_at, Nat.reduceEqDiff, if_true, if_false, popCall, List.toList_toArray, List.map_cons, List.map_nil, popBuiltin, eq_self, true_and, and_true, str_list, str_size, str_app, str_cut, str_get, e2_0, e2_2, e2_13, e2_116, e2_117, e2_118, shPV]
          refine row_app (ys := [shPV y]) hb Tryd.underlying25 sz30 by30 ze30 rfl (by decide) (hob.same s9) (hKb.trans (Same.keeps s9)) rfl (.inr rfl) ⟨by simp only [List.length_map, List.length_cons, List.length_nil]; omega, by simp only [List.length_map, List.length_cons, List.length_nil]; omega⟩ fun sl2 hpn2 hon2 hkn2 => hM _ _ ?_
          clear hM M
          refine pops_mv (.inr rfl) rfl (by simp only [St.eval, upd_at, Nat.reduceEqDiff, if_true, if_false, e2_0, e2_2, e2_13, e2_116, e2_117, e2_118, shPV] <;> rfl) ?_
          refine pops_done (hR60 _ ?_)
          clear hR60 R60
          try simp only [blockK, thenK, scopeK]
          try simp only [thenK, scopeK]
          refine hN53 _ ?_
          clear hN53 N53
          refine pwp_reg fun R61 hR61 => ?_
          refine pops_to rfl fun M hM => ?_
          simp only [pop, St.eval, constSlot, upd_at, Nat.reduceEqDiff, if_true, if_false, popBin, binK, intK, strK, eqK, eq_self, true_and, and_true, e2_0, e2_2, e2_13, e2_116, e2_117, e2_118, shPV]
          refine hM _ _ ?_
          clear hM M
          refine pops_mv (.inl rfl) rfl (by simp only [St.eval, upd_at, Nat.reduceEqDiff, if_true, if_false, e2_0, e2_2, e2_13, e2_116, e2_117, e2_118, shPV] <;> rfl) ?_
          refine pops_done (hR61 _ ?_)
          clear hR61 R61
          try simp only [thenK, scopeK]
          exact ⟨_, by omega, _, .refl _ _, i + 1, sl2, (S ++ [y]), rfl, by omega, by rw [List.length_append]; exact hlt, List.nodup_append.2 ⟨hx2_2, List.pairwise_singleton _ _, fun a ha b hb9 e => hny (by rw [List.mem_singleton.1 hb9] at e; rw [← e]; exact ha)⟩, fun s hs9 => by rcases List.mem_append.1 hs9 with h9 | h9; exact hx2_3 s h9; rw [List.mem_singleton.1 h9]; exact List.mem_of_getElem? hy, by rcases hx2_4 with h9 | h9; omega; exact .inr (take_nextS (fun q hq => by simp [h9 q hq]) hy (by simp)), ⟨hkn2, by rw [List.map_append]; exact hon2⟩, by simp only [upd_at, Nat.reduceEqDiff, if_true, if_false, e2_0, e2_2, e2_13, e2_116, e2_117, e2_118, shPV], by simp only [upd_at, Nat.reduceEqDiff, if_true, if_false, e2_0, e2_2, e2_13, e2_116, e2_117, e2_118, shPV], by simp only [upd_at, Nat.reduceEqDiff, if_true, if_false, e2_0, e2_2, e2_13, e2_116, e2_117, e2_118, shPV], by simp only [upd_at, Nat.reduceEqDiff, if_true, if_false, e2_0, e2_2, e2_13, e2_116, e2_117, e2_118, shPV], by simp only [upd_at, Nat.reduceEqDiff, if_true, if_false, e2_0, e2_2, e2_13, e2_116, e2_117, e2_118, shPV], by simp only [upd_at, Nat.reduceEqDiff, if_true, if_false, e2_118]; rw [wrap_succ (by omega)]⟩
         ·skip
          have hful : S.length = Nd ∨ y ∈ S := by
            by_cases hmem : y ∈ S
            · exact .inr hmem
            · left
              have h1 : S.contains y = false := by rw [List.contains_eq_mem, decide_eq_false_iff_not]; exact hmem
              rw [h1] at c131
              simp at c131
              omega
          refine pwp_skip ?_
          try simp only [blockK, thenK, scopeK]
          try simp only [thenK, scopeK]
          refine hN53 _ ?_
          clear hN53 N53
          refine pwp_reg fun R62 hR62 => ?_
          refine pops_to rfl fun M hM => ?_
          simp only [pop, St.eval, constSlot, upd_at, Nat.reduceEqDiff, if_true, if_false, popBin, binK, intK, strK, eqK, eq_self, true_and, and_true, e2_0, e2_2, e2_13, e2_116, e2_117, e2_118, shPV]
          refine hM _ _ ?_
          clear hM M
          refine pops_mv (.inl rfl) rfl (by simp only [St.eval, upd_at, Nat.reduceEqDiff, if_true, if_false, e2_0, e2_2, e2_13, e2_116, e2_117, e2_118, shPV] <;> rfl) ?_
          refine pops_done (hR62 _ ?_)
          clear hR62 R62
          try simp only [thenK, scopeK]
          exact ⟨_, by omega, _, .refl _ _, i + 1, (.sv (.one pS)), S, rfl, by omega, hx2_1, hx2_2, hx2_3, by rcases hful with h9 | h9; exact .inl h9; rcases hx2_4 with h8 | h8; exact .inl h8; exact .inr (take_nextS h8 hy h9), ⟨hKb.trans (Same.keeps s9), hob.same s9⟩, by simp only [upd_at, Nat.reduceEqDiff, if_true, if_false, e2_0, e2_2, e2_13, e2_116, e2_117, e2_118, shPV], by simp only [upd_at, Nat.reduceEqDiff, if_true, if_false, e2_0, e2_2, e2_13, e2_116, e2_117, e2_118, shPV], by simp only [upd_at, Nat.reduceEqDiff, if_true, if_false, e2_0, e2_2, e2_13, e2_116, e2_117, e2_118, shPV], by simp only [upd_at, Nat.reduceEqDiff, if_true, if_false, e2_0, e2_2, e2_13, e2_116, e2_117, e2_118, shPV], by simp only [upd_at, Nat.reduceEqDiff, if_true, if_false, e2_0, e2_2, e2_13, e2_116, e2_117, e2_118, shPV], by simp only [upd_at, Nat.reduceEqDiff, if_true, if_false, e2_118]; rw [wrap_succ (by omega)]⟩
        ·skip
         have hiM : M ≤ i := by have := of_decide_eq_false c119; omega
         have hSl : S.length = Nd := by
           rcases hx2_4 with h9 | h9
           · exact h9
           · rw [List.take_of_length_le (by omega)] at h9
             have := nodup_le (hL ▸ shU_nodup (by omega) : L.Nodup) h9
             omega
         obtain ⟨pS, rfl⟩ := hob.one
         obtain ⟨T, la, rfl⟩ := last_ex (S := S) (by omega)
         have hTl : T.length + 1 = Nd := by rw [← hSl, List.length_append]; rfl
         have hmS : ∀ s ∈ T ++ [la], s.2.length = sec.length := fun s hs9 => by rw [shU_data (many := M) (by rw [← hL]; exact hx2_3 s hs9), pts_len]
         have hdS : (xsOf (T ++ [la])).Nodup := xs_nodup (many := M) (by omega) (fun s hs9 => by rw [← hL]; exact hx2_3 s hs9) hx2_2
         have hzS : ∀ s ∈ T ++ [la], s.1 ≠ 0 := fun s hs9 => shU_ne (many := M) (by omega) (by rw [← hL]; exact hx2_3 s hs9)
         have hval : valL 0 (T ++ [la]) sec.length = sec := secret_val (need := Nd) (many := M) hnbl (by omega) (by omega) (fun s hs9 => by rw [← hL]; exact hx2_3 s hs9) hx2_2 hSl
         have hla : la.2.length = sec.length := hmS la (by simp)
         have hw152 : IntKind.i64.wrap ((Nd : Int) - 1) = (T.length : Int) := by rw [i64_small (by omega) (by omega)]; omega
         refine pwp_exit ?_
         try simp only [thenK, blockK, scopeK, if_true, Nat.reduceEqDiff, if_false]
         clear hN52 N52
         try simp only [blockK, scopeK, if_true, Nat.reduceEqDiff, if_false, thenK]
         try simp only [thenK, scopeK]
         refine hN47 _ ?_
         clear hN47 N47
         refine pwp_then fun N63 hN63 => ?_
         refine pwp_then fun N64 hN64 => ?_
         refine pwp_reg fun R65 hR65 => ?_
         refine pops_mv (.inl rfl) rfl (by simp only [St.eval, upd_at, Nat.reduceEqDiff, if_true, if_false, e2_0, e2_2, e2_13, e2_116, e2_117, e2_118, shPV] <;> rfl) ?_
         refine pops_mv (.inl rfl) rfl (by simp only [St.eval, upd_at, Nat.reduceEqDiff, if_true, if_false, e2_0, e2_2, e2_13, e2_116, e2_117, e2_118, shPV] <;> rfl) ?_
         refine pops_to rfl fun M hM => ?_
         simp only [pop, St.eval, constSlot, upd_at, Nat.reduceEqDiff, if_true, if_false, popCall, List.toList_toArray, List.map_cons, List.map_nil, svs, List.mapM_cons, List.mapM_nil, Option.bind_eq_bind, Option.bind_some, Option.pure_def, List.append_nil, List.cons_append, List.nil_append, str_size, e2_0, e2_2, e2_13, e2_116, e2_117, e2_118, shPV]
         refine (secret_own W0 (S := T ++ [la]) (n := Nd) (m := sec.length) hb (hKb.trans (Same.keeps (Same.refl _))) (hob.same (Same.refl _)) hSl (by omega) (by omega) hmS hs0 (by omega) hdS hzS).mono ?_
         rintro _ h9 ⟨rfl, s9⟩
         rw [hval]
         replace s9 := Same.trans (Same.refl _) s9
         refine hM _ _ ?_
         clear hM M
         refine pops_mv (.inl rfl) rfl (by simp only [St.eval, upd_at, Nat.reduceEqDiff, if_true, if_false, e2_0, e2_2, e2_13, e2_116, e2_117, e2_118, shPV] <;> rfl) ?_
         refine pops_to rfl fun M hM => ?_
         simp only [pop, St.eval, constSlot, upd_at, Nat.reduceEqDiff, if_true, if_false, List.getElem?_toArray, List.getElem?_cons_zero, List.getElem?_cons_succ, e2_0, e2_2, e2_13, e2_116, e2_117, e2_118, shPV]
         refine hM _ _ ?_
         clear hM M
         refine pops_to rfl fun M hM => ?_
         simp only [pop, St.eval, constSlot, upd_at, Nat.reduceEqDiff, if_true, if_false, List.getElem?_toArray, List.getElem?_cons_zero, List.getElem?_cons_succ, e2_0, e2_2, e2_13, e2_116, e2_117, e2_118, shPV]
         refine hM _ _ ?_
         clear hM M
         refine pops_mv (.inr rfl) rfl (by simp only [St.eval, upd_at, Nat.reduceEqDiff, if_true, if_false, e2_0, e2_2, e2_13, e2_116, e2_117, e2_118, shPV] <;> rfl) ?_
         refine pops_mv (.inr rfl) rfl (by simp only [St.eval, upd_at, Nat.reduceEqDiff, if_true, if_false, e2_0, e2_2, e2_13, e2_116, e2_117, e2_118, shPV] <;> rfl) ?_
         refine pops_done (hR65 _ ?_)
         clear hR65 R65
         try simp only [thenK, scopeK]
         refine hN64 _ ?_
         clear hN64 N64
         refine pwp_then fun N66 hN66 => ?_
         refine pwp_reg fun R67 hR67 => ?_
         refine pops_mv (.inl rfl) rfl (by simp only [St.eval, upd_at, Nat.reduceEqDiff, if_true, if_false, e2_0, e2_2, e2_13, e2_116, e2_117, e2_118, shPV] <;> rfl) ?_
         refine pops_to rfl fun M hM => ?_
         simp only [pop, St.eval, constSlot, upd_at, Nat.reduceEqDiff, if_true, if_false, popBin, binK, intK, strK, eqK, Tryd.underlying26, isPtr, eq_self, true_and, and_true, e2_0, e2_2, e2_13, e2_116, e2_117, e2_118, shPV, show ((0 : Int) != 0) = false from rfl]
         refine hM _ _ ?_
         clear hM M
         refine pops_mv (.inl rfl) rfl (by simp only [St.eval, upd_at, Nat.reduceEqDiff, if_true, if_false, e2_0, e2_2, e2_13, e2_116, e2_117, e2_118, shPV] <;> rfl) ?_
         refine pops_mvg (.inl rfl) rfl rfl (by simp only [upd_at, Nat.reduceEqDiff, if_true, if_false, e2_0, e2_2, e2_13, e2_116, e2_117, e2_118, shPV]) (by simp only [St.eval, upd_at, Nat.reduceEqDiff, if_true, if_false, e2_0, e2_2, e2_13, e2_116, e2_117, e2_118, shPV] <;> rfl) ?_
         refine pops_mvg (.inl rfl) rfl rfl (by simp only [upd_at, Nat.reduceEqDiff, if_true, if_false, e2_0, e2_2, e2_13, e2_116, e2_117, e2_118, shPV]) (by simp only [St.eval, upd_at, Nat.reduceEqDiff, if_true, if_false, e2_0, e2_2, e2_13, e2_116, e2_117, e2_118, shPV] <;> rfl) ?_
         refine pops_do rfl rfl (by simp only [upd_at, Nat.reduceEqDiff, if_true, if_false, e2_0, e2_2, e2_13, e2_116, e2_117, e2_118, shPV]) fun M hM => ?_
         simp only [pop, St.eval, constSlot, upd_at, Nat.reduceEqDiff, if_true, if_false, popBin, binK, intK, strK, eqK, Tryd.underlying9, isPtr, eq_self, true_and, and_true, str_list, str_size, str_app, str_cut, str_get, e2_0, e2_2, e2_13, e2_116, e2_117, e2_118, shPV, beq_self_eq_true, Bool.not_true]
         refine hM _ _ ?_
         clear hM M
         refine pops_to rfl fun M hM => ?_
         simp only [pop, St.eval, constSlot, upd_at, Nat.reduceEqDiff, if_true, if_false, popIf, true_implies, false_implies, Bool.true_eq_false, Bool.false_eq_true, reduceCtorEq, true_and, and_true, e2_0, e2_2, e2_13, e2_116, e2_117, e2_118, shPV]
         refine hM _ _ ?_
         clear hM M
         refine pops_done (hR67 _ ?_)
         clear hR67 R67
         try simp only [thenK, scopeK]
         refine hN66 _ ?_
         clear hN66 N66
         refine pwp_cond_false (by simp only [St.eval, upd_at, Nat.reduceEqDiff, if_true, if_false, e2_0, e2_2, e2_13, e2_116, e2_117, e2_118, shPV] <;> rfl) ?_
         refine pwp_skip ?_
         try simp only [thenK, scopeK]
         refine hN63 _ ?_
         clear hN63 N63
         refine pwp_then fun N68 hN68 => ?_
         refine pwp_reg fun R69 hR69 => ?_
         refine pops_to rfl fun M hM => ?_
         simp only [pop, St.eval, constSlot, upd_at, Nat.reduceEqDiff, if_true, if_false, eq_self, true_and, and_true, str_list, str_size, str_app, str_cut, str_get, e2_0, e2_2, e2_13, e2_116, e2_117, e2_118, shPV]
         refine alloc34 fun id7 hid7 => hM _ _ ?_
         have hb7 := blk_new h9 id7 (seenBlk [])
         have hkn := Keeps.new (b := seenBlk []) (hpOk.same hok2 s9) hid7
         have ho7 := (hob.same s9).keeps hkn
         have hK7 := (hKb.trans (Same.keeps s9)).trans hkn
         have hlim7 : h.lim ≤ id7 := Nat.le_trans (hKb.trans (Same.keeps s9)).2 hid7
         clear hM M
         refine pops_done (hR69 _ ?_)
         clear hR69 R69
         try simp only [thenK, scopeK]
         refine hN68 _ ?_
         clear hN68 N68
         refine pwp_then fun N70 hN70 => ?_
         refine pwp_reg fun R71 hR71 => ?_
         refine pops_mv (.inl rfl) rfl (by simp only [St.eval, upd_at, Nat.reduceEqDiff, if_true, if_false, e2_0, e2_2, e2_13, e2_116, e2_117, e2_118, shPV] <;> rfl) ?_
         refine pops_mv (.inl rfl) rfl (by simp only [St.eval, upd_at, Nat.reduceEqDiff, if_true, if_false, e2_0, e2_2, e2_13, e2_116, e2_117, e2_118, shPV] <;> rfl) ?_
         refine pops_to rfl fun M hM => ?_
         simp only [pop, St.eval, constSlot, upd_at, Nat.reduceEqDiff, if_true, if_false, popBin, binK, intK, strK, eqK, eq_self, true_and, and_true, e2_0, e2_2, e2_13, e2_116, e2_117, e2_118, shPV, hw152]
         refine hM _ _ ?_
         clear hM M
         refine pops_to rfl fun M hM => ?_
         simp only [pop, St.eval, constSlot, upd_at, Nat.reduceEqDiff, if_true, if_false, eq_self, true_and, and_true, str_list, str_size, str_app, str_cut, str_get, e2_0, e2_2, e2_13, e2_116, e2_117, e2_118, shPV]
         refine row_at Tryd.underlying25 sz30 (ho7.same (Same.refl _)) rfl (i := T.length) (by rw [List.length_map, List.length_append]; exact Nat.lt_succ_self _) fun id1 ver1 es1 E1 => hM _ _ ?_
         clear hM M
         refine pops_mv (.inr rfl) rfl (by simp only [St.eval, upd_at, Nat.reduceEqDiff, if_true, if_false, e2_0, e2_2, e2_13, e2_116, e2_117, e2_118, shPV] <;> rfl) ?_
         refine pops_done (hR71 _ ?_)
         clear hR71 R71
         try simp only [thenK, scopeK]
         refine hN70 _ ?_
         clear hN70 N70
         refine pwp_then fun N72 hN72 => ?_
         refine pwp_reg fun R73 hR73 => ?_
         refine pops_mv (.inl rfl) rfl (by simp only [St.eval, upd_at, Nat.reduceEqDiff, if_true, if_false, e2_0, e2_2, e2_13, e2_116, e2_117, e2_118, shPV] <;> rfl) ?_
         refine pops_to rfl fun M hM => ?_
         simp only [pop, St.eval, constSlot, upd_at, Nat.reduceEqDiff, if_true, if_false, eq_self, true_and, and_true, str_list, str_size, str_app, str_cut, str_get, e2_0, e2_2, e2_13, e2_116, e2_117, e2_118, shPV]
         refine hM _ _ ?_
         clear hM M
         refine pops_to rfl fun M hM => ?_
         simp only [pop, St.eval, constSlot, upd_at, Nat.reduceEqDiff, if_true, if_false, popFieldAddr, fieldOf, List.drop_succ_cons, List.drop_zero, List.getElem?_toArray, List.getElem?_cons_zero, List.getElem?_cons_succ, Tryd.underlying30, sz9, e2_0, e2_2, e2_13, e2_116, e2_117, e2_118, shPV]
         refine ⟨⟨_, rfl⟩, hM _ _ ?_⟩
         clear hM M
         refine pops_to rfl fun M hM => ?_
         simp only [pop, St.eval, constSlot, upd_at, Nat.reduceEqDiff, if_true, if_false, eq_self, true_and, and_true, e2_0, e2_2, e2_13, e2_116, e2_117, e2_118, shPV]
         refine el_load (E1.same (Same.refl _)) (c := shPV la) (get_last T la) ?_
         simp only [loadK, Tryd.underlying9, isAggD, Bool.false_eq_true, if_false, List.drop_succ_cons, List.drop_zero]
         refine hM _ _ ?_
         clear hM M
         refine pops_mv (.inr rfl) rfl (by simp only [St.eval, upd_at, Nat.reduceEqDiff, if_true, if_false, e2_0, e2_2, e2_13, e2_116, e2_117, e2_118, shPV] <;> rfl) ?_
         refine pops_done (hR73 _ ?_)
         clear hR73 R73
         try simp only [thenK, scopeK]
         refine hN72 _ ?_
         clear hN72 N72
         refine pwp_then fun N74 hN74 => ?_
         refine pwp_then fun N75 hN75 => ?_
         refine pwp_reg fun R76 hR76 => ?_
         refine pops_mv (.inl rfl) rfl (by simp only [St.eval, constSlot] <;> rfl) ?_
         refine pops_done (hR76 _ ?_)
         clear hR76 R76
         try simp only [thenK, scopeK]
         refine hN75 _ ?_
         clear hN75 N75
         refine pwp_block ?_
         refine pwp_loop (fun k σ => ∃ (v : Nat), ∃ (D : List UInt8), (k = 256 - v) ∧ (v ≤ 256) ∧ (id1 ≠ id7) ∧ (Keeps h σ.hp ∧ (∃ es, ElAt 30 2 h σ.hp (.sv (.one pS)) ((T ++ [(la.1, D)]).map shPV) T.length id1 ver1 es) ∧ (σ.hp).blk id7 = some (seenBlk (outs T la.1 (la.2.drop 1) sec.length v))) ∧ (σ.env 2 = .sv (.one (pint (Nd : Nat)))) ∧ (σ.env 13 = .sv (.one pS)) ∧ (σ.env 21 = .sv (.one (.ptr id7 0 0 0))) ∧ (σ.env 22 = .sv (.one (.ptr id1 ver1 T.length 0))) ∧ (σ.env 23 = .sv (.one (pstr la.2))) ∧ (σ.env 158 = .sv (.one (pint (v : Nat))))) _ ⟨_, .refl _ _, 0, la.2, rfl, ?_⟩ ?_
         · exact ⟨Nat.zero_le _, fun e9 => by have h8 := E1.blk; rw [e9] at h8; rw [show (_ : Hp).blk id7 = some (seenBlk []) from hb7] at h8; simp [seenBlk] at h8, ⟨hK7.trans (Same.keeps (Same.refl _)), ⟨es1, E1.same (Same.refl _)⟩, by rw [((Same.refl _)).1]; exact hb7⟩, by simp only [upd_at, Nat.reduceEqDiff, if_true, if_false, e2_0, e2_2, e2_13, e2_116, e2_117, e2_118, shPV], by simp only [upd_at, Nat.reduceEqDiff, if_true, if_false, e2_0, e2_2, e2_13, e2_116, e2_117, e2_118, shPV], by simp only [upd_at, Nat.reduceEqDiff, if_true, if_false, e2_0, e2_2, e2_13, e2_116, e2_117, e2_118, shPV], by simp only [upd_at, Nat.reduceEqDiff, if_true, if_false, e2_0, e2_2, e2_13, e2_116, e2_117, e2_118, shPV], by simp only [upd_at, Nat.reduceEqDiff, if_true, if_false, e2_0, e2_2, e2_13, e2_116, e2_117, e2_118, shPV], by first | rfl | (simp only [upd_at, Nat.reduceEqDiff, if_true, if_false]; rfl)⟩
         ·rintro k ⟨e, hp3⟩ ⟨v, D, hk3, hx3_0, hx3_1, sl3, e3_2, e3_13, e3_21, e3_22, e3_23, e3_158⟩
          simp only at sl3 e3_2 e3_13 e3_21 e3_22 e3_23 e3_158
          obtain ⟨hKc, ⟨esc, Ec⟩, hbc⟩ := sl3
          have hid17 := hx3_1
          refine pwp_hpok fun hok3 => ?_
          simp only at hok3
          refine pwp_then fun N77 hN77 => ?_
          refine pwp_reg fun R78 hR78 => ?_
          refine pops_to rfl fun M hM => ?_
          simp only [pop, St.eval, constSlot, upd_at, Nat.reduceEqDiff, if_true, if_false, popBin, binK, intK, strK, eqK, eq_self, true_and, and_true, e3_2, e3_13, e3_21, e3_22, e3_23, e3_158, shPV]
          refine hM _ _ ?_
          clear hM M
          refine pops_done (hR78 _ ?_)
          clear hR78 R78
          try simp only [thenK, scopeK]
          refine hN77 _ ?_
          clear hN77 N77
          refine pwp_then fun N79 hN79 => ?_
          refine pwp_cond (by simp only [St.eval, upd_at, Nat.reduceEqDiff, if_true, if_false, e3_2, e3_13, e3_21, e3_22, e3_23, e3_158, shPV] <;> rfl) (fun c159 => ?_) (fun c159 => ?_)
          ·skip
           have hv : v < 256 := by have := of_decide_eq_true c159; omega
           obtain ⟨g, hg⟩ : ∃ g, g = firstV T la.1 (UInt8.ofNat v) (la.2.drop 1) sec.length := ⟨_, rfl⟩
           have hV0 : (valL 0 (T ++ [(la.1, UInt8.ofNat v :: la.2.drop 1)]) sec.length)[0]? = some g := by rw [hg]; exact first_at _ _ _ _ hs0
           have hg256 : g.toNat < 256 := g.toNat_lt
           obtain ⟨rest, hrest⟩ := seen_at (outs T la.1 (la.2.drop 1) sec.length v) g
           have hkz : ∀ k ∈ xsOf T ++ [la.1], k ≠ 0 := fun k hk => by
             have e9 : xsOf T ++ [la.1] = xsOf (T ++ [la]) := by simp
             rw [e9] at hk
             obtain ⟨s, hs9, rfl⟩ := List.mem_map.1 hk
             exact hzS s hs9
           rw [hg, outs_new hs0 hkz hv, ← hg] at hrest
           have hnew : (T ++ [(la.1, UInt8.ofNat v :: la.2.drop 1)]).length = Nd := by rw [List.length_append]; exact hTl
           have hmN : ∀ s ∈ (T ++ [(la.1, UInt8.ofNat v :: la.2.drop 1)]), s.2.length = sec.length := fun s hs9 => by rcases List.mem_append.1 hs9 with h9 | h9; exact hmS s (by simp [h9]); rw [List.mem_singleton.1 h9, List.length_cons, List.length_drop]; omega
           have exN : xsOf (T ++ [(la.1, UInt8.ofNat v :: la.2.drop 1)]) = xsOf (T ++ [la]) := by simp
           have hzN : ∀ s ∈ (T ++ [(la.1, UInt8.ofNat v :: la.2.drop 1)]), s.1 ≠ 0 := fun s hs9 => by rcases List.mem_append.1 hs9 with h9 | h9; exact hzS s (by simp [h9]); rw [List.mem_singleton.1 h9]; exact hzS la (by simp)
           refine pwp_skip ?_
           try simp only [thenK, scopeK]
           refine hN79 _ ?_
           clear hN79 N79
           refine pwp_then fun N80 hN80 => ?_
           refine pwp_block ?_
           refine pwp_then fun N81 hN81 => ?_
           refine pwp_reg fun R82 hR82 => ?_
           refine pops_mv (.inl rfl) rfl (by simp only [St.eval, upd_at, Nat.reduceEqDiff, if_true, if_false, e3_2, e3_13, e3_21, e3_22, e3_23, e3_158, shPV] <;> rfl) ?_
           refine pops_mv (.inr rfl) rfl (by simp only [St.eval, upd_at, Nat.reduceEqDiff, if_true, if_false, e3_2, e3_13, e3_21, e3_22, e3_23, e3_158, shPV] <;> rfl) ?_
           refine pops_done (hR82 _ ?_)
           clear hR82 R82
           try simp only [thenK, scopeK]
           refine hN81 _ ?_
           clear hN81 N81
           refine pwp_then fun N83 hN83 => ?_
           refine pwp_dreg 10 mixed (by decide +kernel) fun R84 hR84 => ?_
           simp only [List.take_succ_cons, List.take_zero, List.drop_succ_cons, List.drop_zero]
           apply lex_to
           · rfl
           ·intro h' s' M hM
            simp only [pop, St.eval, constSlot, upd_at, Nat.reduceEqDiff, if_true, if_false, eq_self, true_and, and_true, str_list, str_size, str_app, str_cut, str_get, e3_2, e3_13, e3_21, e3_22, e3_23, e3_158, shPV, s'.1]
            exact hM _ (.refl _)
           apply lex_to
           · rfl
           ·intro h' s' M hM
            simp only [pop, St.eval, constSlot, upd_at, Nat.reduceEqDiff, if_true, if_false, eq_self, true_and, and_true, str_list, str_size, str_app, str_cut, str_get, e3_2, e3_13, e3_21, e3_22, e3_23, e3_158, shPV, s'.1]
            exact hM _ (.refl _)
           apply lex_to
           · rfl
           ·intro h' s' M hM
            simp only [pop, St.eval, constSlot, upd_at, Nat.reduceEqDiff, if_true, if_false, popConvert, Tryd.underlying3, Tryd.underlying5, eq_self, true_and, and_true, str_list, str_size, str_app, str_cut, str_get, e3_2, e3_13, e3_21, e3_22, e3_23, e3_158, shPV, u8_nat (X := v) hv, s'.1]
            exact hM _ (.refl _)
           apply lex_to
           · rfl
           ·intro h' s' M hM
            simp only [pop, St.eval, constSlot, upd_at, Nat.reduceEqDiff, if_true, if_false, popBuildSlice, slotCells, List.toList_toArray, List.map_cons, List.map_nil, List.mapM_cons, List.mapM_nil, Option.bind_eq_bind, Option.bind_some, Option.pure_def, Tryd.underlying36, sz5, ze5, by5, eq_self, true_and, and_true, str_list, str_size, str_app, str_cut, str_get, e3_2, e3_13, e3_21, e3_22, e3_23, e3_158, shPV, s'.1]
            exact ⟨by decide, by decide, rfl, rfl, by simp, by decide, rfl, hM _ (.refl _)⟩
           apply lex_to
           · rfl
           ·intro h' s' M hM
            simp only [pop, St.eval, constSlot, upd_at, Nat.reduceEqDiff, if_true, if_false, popConvert, Tryd.underlying36, Tryd.underlying9, Tryd.underlying5, eq_self, true_and, and_true, str_list, str_size, str_app, str_cut, str_get, e3_2, e3_13, e3_21, e3_22, e3_23, e3_158, shPV, s'.1]
            refine ⟨[UInt8.ofNat v], ⟨1, rfl⟩, ?_⟩
            exact hM _ (.refl _)
           apply lex_to
           · rfl
           ·intro h' s' M hM
            simp only [pop, St.eval, constSlot, upd_at, Nat.reduceEqDiff, if_true, if_false, eq_self, true_and, and_true, str_list, str_size, str_app, str_cut, str_get, e3_2, e3_13, e3_21, e3_22, e3_23, e3_158, shPV, s'.1]
            exact hM _ (.refl _)
           apply lex_to
           · rfl
           ·intro h' s' M hM
            simp only [pop, St.eval, constSlot, upd_at, Nat.reduceEqDiff, if_true, if_false, popSlice, boundOf, Option.map_none, Option.map_some, Tryd.underlying9, eq_self, true_and, and_true, str_list, str_size, str_app, str_cut, str_get, e3_2, e3_13, e3_21, e3_22, e3_23, e3_158, shPV, List.take_length, show (1 : Int).toNat = 1 from rfl, Int.toNat_natCast, s'.1]
            refine ⟨by decide, by omega, Int.le_refl _, ?_⟩
            exact hM _ (.refl _)
           apply lex_to
           · rfl
           ·intro h' s' M hM
            simp only [pop, St.eval, constSlot, upd_at, Nat.reduceEqDiff, if_true, if_false, popBin, binK, intK, strK, eqK, eq_self, true_and, and_true, str_list, str_size, str_app, str_cut, str_get, e3_2, e3_13, e3_21, e3_22, e3_23, e3_158, shPV, s'.1]
            refine ⟨by simp only [List.length_cons, List.length_nil, List.length_drop]; omega, ?_⟩
            exact hM _ (.refl _)
           apply lex_to
           · rfl
           ·intro h' s' M hM
            simp only [pop, St.eval, constSlot, upd_at, Nat.reduceEqDiff, if_true, if_false, eq_self, true_and, and_true, str_list, str_size, str_app, str_cut, str_get, e3_2, e3_13, e3_21, e3_22, e3_23, e3_158, shPV, s'.1]
            exact hM _ (.refl _)
           apply lex_to
           · rfl
           ·intro h' s' M hM
            simp only [pop, St.eval, constSlot, upd_at, Nat.reduceEqDiff, if_true, if_false, popFieldAddr, fieldOf, List.drop_succ_cons, List.drop_zero, List.getElem?_toArray, List.getElem?_cons_zero, List.getElem?_cons_succ, Tryd.underlying30, sz9, e3_2, e3_13, e3_21, e3_22, e3_23, e3_158, shPV, s'.1]
            exact ⟨⟨_, rfl⟩, hM _ (.refl _)⟩
           refine lex_done fun hq sq => ?_
           skip
           refine pops_no fun M hM => ?_
           simp only [pop, St.eval, constSlot, upd_at, Nat.reduceEqDiff, if_true, if_false, eq_self, true_and, and_true, str_list, str_size, str_app, str_cut, str_get, e3_2, e3_13, e3_21, e3_22, e3_23, e3_158, shPV]
           have hKd := hKc.trans (Same.keeps sq)
           refine el_store2 (ps := [pstr (UInt8.ofNat v :: la.2.drop 1)]) (Ec.same sq) hb hKd (get_last T _) rfl sz9 (Nat.le_refl _) fun hp6 es6 he6 E6 hk6 => hM _ _ ?_
           replace E6 := (set_last T la.1 D (UInt8.ofNat v :: la.2.drop 1)) ▸ E6
           have hb6 : hp6.blk id7 = some (seenBlk (outs T la.1 (la.2.drop 1) sec.length v)) := by rw [he6]; exact blk_put (by rw [(sq).1]; exact hbc) (Ne.symm hid17)
           clear hM M
           refine pops_done (hR84 _ ?_)
           clear hR84 R84
           try simp only [thenK, scopeK]
           refine hN83 _ ?_
           clear hN83 N83
           refine pwp_then fun N85 hN85 => ?_
           refine pwp_reg fun R86 hR86 => ?_
           refine pops_mv (.inl rfl) rfl (by simp only [St.eval, upd_at, Nat.reduceEqDiff, if_true, if_false, e3_2, e3_13, e3_21, e3_22, e3_23, e3_158, shPV] <;> rfl) ?_
           refine pops_mv (.inl rfl) rfl (by simp only [St.eval, upd_at, Nat.reduceEqDiff, if_true, if_false, e3_2, e3_13, e3_21, e3_22, e3_23, e3_158, shPV] <;> rfl) ?_
           refine pops_to rfl fun M hM => ?_
           simp only [pop, St.eval, constSlot, upd_at, Nat.reduceEqDiff, if_true, if_false, popCall, List.toList_toArray, List.map_cons, List.map_nil, svs, List.mapM_cons, List.mapM_nil, Option.bind_eq_bind, Option.bind_some, Option.pure_def, List.append_nil, List.cons_append, List.nil_append, str_size, e3_2, e3_13, e3_21, e3_22, e3_23, e3_158, shPV]
           refine (secret_own W0 (S := (T ++ [(la.1, UInt8.ofNat v :: la.2.drop 1)])) (n := Nd) (m := sec.length) hb (hk6.trans (Same.keeps (Same.refl _))) (E6.row.same (Same.refl _)) hnew (by omega) (by omega) hmN hs0 (by omega) (by rw [exN]; exact hdS) hzN).mono ?_
           rintro _ h9 ⟨rfl, s9⟩
           replace s9 := Same.trans (Same.refl _) s9
           have hbd : h9.blk id7 = some (seenBlk (outs T la.1 (la.2.drop 1) sec.length v)) := by rw [s9.1]; exact hb6
           refine hM _ _ ?_
           clear hM M
           refine pops_mv (.inl rfl) rfl (by simp only [St.eval, upd_at, Nat.reduceEqDiff, if_true, if_false, e3_2, e3_13, e3_21, e3_22, e3_23, e3_158, shPV] <;> rfl) ?_
           refine pops_to rfl fun M hM => ?_
           simp only [pop, St.eval, constSlot, upd_at, Nat.reduceEqDiff, if_true, if_false, List.getElem?_toArray, List.getElem?_cons_zero, List.getElem?_cons_succ, e3_2, e3_13, e3_21, e3_22, e3_23, e3_158, shPV]
           refine hM _ _ ?_
           clear hM M
           refine pops_to rfl fun M hM => ?_
           simp only [pop, St.eval, constSlot, upd_at, Nat.reduceEqDiff, if_true, if_false, List.getElem?_toArray, List.getElem?_cons_zero, List.getElem?_cons_succ, e3_2, e3_13, e3_21, e3_22, e3_23, e3_158, shPV]
           refine hM _ _ ?_
           clear hM M
           refine pops_mv (.inr rfl) rfl (by simp only [St.eval, upd_at, Nat.reduceEqDiff, if_true, if_false, e3_2, e3_13, e3_21, e3_22, e3_23, e3_158, shPV] <;> rfl) ?_
           refine pops_mv (.inr rfl) rfl (by simp only [St.eval, upd_at, Nat.reduceEqDiff, if_true, if_false, e3_2, e3_13, e3_21, e3_22, e3_23, e3_158, shPV] <;> rfl) ?_
           refine pops_done (hR86 _ ?_)
           clear hR86 R86
           try simp only [thenK, scopeK]
           refine hN85 _ ?_
           clear hN85 N85
           refine pwp_then fun N87 hN87 => ?_
           refine pwp_then fun N88 hN88 => ?_
           refine pwp_reg fun R89 hR89 => ?_
           refine pops_mv (.inl rfl) rfl (by simp only [St.eval, upd_at, Nat.reduceEqDiff, if_true, if_false, e3_2, e3_13, e3_21, e3_22, e3_23, e3_158, shPV] <;> rfl) ?_
           refine pops_to rfl fun M hM => ?_
           simp only [pop, St.eval, constSlot, upd_at, Nat.reduceEqDiff, if_true, if_false, popBin, binK, intK, strK, eqK, Tryd.underlying26, isPtr, eq_self, true_and, and_true, e3_2, e3_13, e3_21, e3_22, e3_23, e3_158, shPV, show ((0 : Int) != 0) = false from rfl]
           refine hM _ _ ?_
           clear hM M
           refine pops_mv (.inl rfl) rfl (by simp only [St.eval, upd_at, Nat.reduceEqDiff, if_true, if_false, e3_2, e3_13, e3_21, e3_22, e3_23, e3_158, shPV] <;> rfl) ?_
           refine pops_mvg (.inl rfl) rfl rfl (by simp only [upd_at, Nat.reduceEqDiff, if_true, if_false, e3_2, e3_13, e3_21, e3_22, e3_23, e3_158, shPV]) (by simp only [St.eval, upd_at, Nat.reduceEqDiff, if_true, if_false, e3_2, e3_13, e3_21, e3_22, e3_23, e3_158, shPV] <;> rfl) ?_
           refine pops_do rfl rfl (by simp only [upd_at, Nat.reduceEqDiff, if_true, if_false, e3_2, e3_13, e3_21, e3_22, e3_23, e3_158, shPV]) fun M hM => ?_
           simp only [pop, St.eval, constSlot, upd_at, Nat.reduceEqDiff, if_true, if_false, popIndex, partK, Tryd.underlying9, eq_self, true_and, and_true, str_list, str_size, str_app, str_cut, str_get, e3_2, e3_13, e3_21, e3_22, e3_23, e3_158, shPV, hV0, show (0 : Int).toNat = 0 from rfl]
           refine ⟨by decide, hM _ _ ?_⟩
           clear hM M
           refine pops_do rfl rfl (by simp only [upd_at, Nat.reduceEqDiff, if_true, if_false, e3_2, e3_13, e3_21, e3_22, e3_23, e3_158, shPV]) fun M hM => ?_
           simp only [pop, St.eval, constSlot, upd_at, Nat.reduceEqDiff, if_true, if_false, popIndexAddr, Tryd.underlying34, sz4, eq_self, true_and, and_true, str_list, str_size, str_app, str_cut, str_get, e3_2, e3_13, e3_21, e3_22, e3_23, e3_158, shPV, Int.toNat_natCast, Nat.zero_add, Nat.mul_one]
           refine ⟨Int.natCast_nonneg _, by omega, ?_⟩
           refine hM _ _ ?_
           clear hM M
           refine pops_do rfl rfl (by simp only [upd_at, Nat.reduceEqDiff, if_true, if_false, e3_2, e3_13, e3_21, e3_22, e3_23, e3_158, shPV]) fun M hM => ?_
           simp only [pop, St.eval, constSlot, upd_at, Nat.reduceEqDiff, if_true, if_false, popLoad, loadK, isAggD, List.drop_zero, List.getElem?_toArray, List.getElem?_cons_zero, List.getElem?_cons_succ, Bool.false_eq_true, Tryd.underlying4, sz4, eq_self, true_and, and_true, e3_2, e3_13, e3_21, e3_22, e3_23, e3_158, shPV, hbd, seenBlk, List.getElem?_cons_zero, hrest]
           refine hM _ _ ?_
           clear hM M
           refine pops_to rfl fun M hM => ?_
           simp only [pop, St.eval, constSlot, upd_at, Nat.reduceEqDiff, if_true, if_false, popIf, true_implies, false_implies, Bool.true_eq_false, Bool.false_eq_true, reduceCtorEq, true_and, and_true, e3_2, e3_13, e3_21, e3_22, e3_23, e3_158, shPV]
           refine hM _ _ ?_
           clear hM M
           refine pops_done (hR89 _ ?_)
           clear hR89 R89
           try simp only [thenK, scopeK]
           refine hN88 _ ?_
           clear hN88 N88
           refine pwp_cond_false (by simp only [St.eval, upd_at, Nat.reduceEqDiff, if_true, if_false, e3_2, e3_13, e3_21, e3_22, e3_23, e3_158, shPV] <;> rfl) ?_
           refine pwp_skip ?_
           try simp only [thenK, scopeK]
           refine hN87 _ ?_
           clear hN87 N87
           refine pwp_reg fun R90 hR90 => ?_
           refine pops_mv (.inl rfl) rfl (by simp only [St.eval, upd_at, Nat.reduceEqDiff, if_true, if_false, e3_2, e3_13, e3_21, e3_22, e3_23, e3_158, shPV] <;> rfl) ?_
           refine pops_to rfl fun M hM => ?_
           simp only [pop, St.eval, constSlot, upd_at, Nat.reduceEqDiff, if_true, if_false, popIndex, partK, Tryd.underlying9, eq_self, true_and, and_true, str_list, str_size, str_app, str_cut, str_get, e3_2, e3_13, e3_21, e3_22, e3_23, e3_158, shPV, hV0, show (0 : Int).toNat = 0 from rfl]
           refine ⟨by decide, hM _ _ ?_⟩
           clear hM M
           refine pops_to rfl fun M hM => ?_
           simp only [pop, St.eval, constSlot, upd_at, Nat.reduceEqDiff, if_true, if_false, popIndexAddr, Tryd.underlying34, sz4, eq_self, true_and, and_true, str_list, str_size, str_app, str_cut, str_get, e3_2, e3_13, e3_21, e3_22, e3_23, e3_158, shPV, Int.toNat_natCast, Nat.zero_add, Nat.mul_one]
           refine ⟨Int.natCast_nonneg _, by omega, ?_⟩
           refine hM _ _ ?_
           clear hM M
           refine pops_no fun M hM => ?_
           simp only [pop, St.eval, constSlot, upd_at, Nat.reduceEqDiff, if_true, if_false, eq_self, true_and, and_true, str_list, str_size, str_app, str_cut, str_get, e3_2, e3_13, e3_21, e3_22, e3_23, e3_158, shPV]
           have hk8 := hk6.trans (Same.keeps s9)
           have E8 := E6.same s9
           refine store_seen (c := g) (by rw [(s9).1]; exact hb6) sz4 (hM _ _ ?_)
           clear hM M
           refine pops_done (hR90 _ ?_)
           clear hR90 R90
           try simp only [blockK, thenK, scopeK]
           try simp only [thenK, scopeK]
           refine hN80 _ ?_
           clear hN80 N80
           refine pwp_reg fun R91 hR91 => ?_
           refine pops_to rfl fun M hM => ?_
           simp only [pop, St.eval, constSlot, upd_at, Nat.reduceEqDiff, if_true, if_false, popBin, binK, intK, strK, eqK, eq_self, true_and, and_true, e3_2, e3_13, e3_21, e3_22, e3_23, e3_158, shPV]
           refine hM _ _ ?_
           clear hM M
           refine pops_mv (.inl rfl) rfl (by simp only [St.eval, upd_at, Nat.reduceEqDiff, if_true, if_false, e3_2, e3_13, e3_21, e3_22, e3_23, e3_158, shPV] <;> rfl) ?_
           refine pops_done (hR91 _ ?_)
           clear hR91 R91
           try simp only [thenK, scopeK]
           exact ⟨_, by omega, _, .refl _ _, v + 1, (UInt8.ofNat v :: la.2.drop 1), rfl, by omega, hx3_1, ⟨Keeps.set hk8 hb hlim7, ⟨es6, E8.put hx3_1⟩, by rw [outs_succ, ← hg]; exact blk_set _ _ _⟩, by simp only [upd_at, Nat.reduceEqDiff, if_true, if_false, e3_2, e3_13, e3_21, e3_22, e3_23, e3_158, shPV], by simp only [upd_at, Nat.reduceEqDiff, if_true, if_false, e3_2, e3_13, e3_21, e3_22, e3_23, e3_158, shPV], by simp only [upd_at, Nat.reduceEqDiff, if_true, if_false, e3_2, e3_13, e3_21, e3_22, e3_23, e3_158, shPV], by simp only [upd_at, Nat.reduceEqDiff, if_true, if_false, e3_2, e3_13, e3_21, e3_22, e3_23, e3_158, shPV], by simp only [upd_at, Nat.reduceEqDiff, if_true, if_false, e3_2, e3_13, e3_21, e3_22, e3_23, e3_158, shPV], by simp only [upd_at, Nat.reduceEqDiff, if_true, if_false, e3_158]; rw [wrap_succ (by omega)]⟩
          ·skip
           refine pwp_exit ?_
           try simp only [thenK, blockK, scopeK, if_true, Nat.reduceEqDiff, if_false]
           clear hN79 N79
           try simp only [blockK, scopeK, if_true, Nat.reduceEqDiff, if_false, thenK]
           try simp only [thenK, scopeK]
           refine hN74 _ ?_
           clear hN74 N74
           refine pwp_then fun N92 hN92 => ?_
           refine pwp_reg fun R93 hR93 => ?_
           refine pops_mv (.inr rfl) rfl (by simp only [St.eval, constSlot] <;> rfl) ?_
           refine pops_done (hR93 _ ?_)
           clear hR93 R93
           try simp only [thenK, scopeK]
           refine hN92 _ ?_
           clear hN92 N92
           refine pwp_ret ?_
           simp only [thenK, blockK, scopeK, bodyK]
           exact ⟨_, rfl, endKeeps1 (hKc.trans (Same.keeps (Same.refl _))) rfl⟩
end Go.Pw
