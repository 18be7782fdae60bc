/- Own work: part of the proof of the row YtlghclplgbijjaaDoorRowFilterChecksUpto; no condition of its own. -/
import Derived.Test.YtlghclplgbijjaaDoorGlobK
import Derived.Test.YtlghclplgbijjaaDoorGlobH
import Derived.Test.YtlghclplgbijjaaDoorGFacts
namespace Go.Pw
open Go Go.RowKit Go.Proofs
set_option maxRecDepth 100000
set_option linter.unusedSimpArgs false
set_option linter.unusedVariables false
theorem showParts_fun (W0 : World) (l : List GPart) (hl : lW l ≤ 1048576) (b : Bool) (hc : chkL b l = 0) (w : Bool) : PFun Tryd.prog W0 48 [.one (.ro false 5 (encL l)), .one (pbool w)] (.sv (.one (pstr (shL w l)))) :=
  rec_parts (Q := fun l => lW l ≤ 1048576 → ∀ b, chkL b l = 0 → ∀ w : Bool, PFun Tryd.prog W0 48 [.one (.ro false 5 (encL l)), .one (pbool w)] (.sv (.one (pstr (shL w l)))))
    (fun l ih hl b hc w => showParts_fun1 W0 l hl b hc w ih) l hl b hc w
def globR1 (rooted : Bool) (l : List GPart) : List UInt8 := if !rooted && ((shL false l).head? == some 47) then 92 :: shL false l else shL false l
def globR2 (rooted dirs : Bool) (l : List GPart) : List UInt8 := if !dirs && (((globR1 rooted l).getLast? == some 47) && !quotB (globR1 rooted l)) then (globR1 rooted l).take ((globR1 rooted l).length - 1) ++ [92, 47] else globR1 rooted l
def globR3 (rooted dirs : Bool) (l : List GPart) : List UInt8 := if rooted then 47 :: globR2 rooted dirs l else globR2 rooted dirs l
theorem globR_3 (rooted dirs : Bool) (l : List GPart) : globR rooted dirs l = if dirs then globR3 rooted dirs l ++ [47] else globR3 rooted dirs l := rfl
theorem globR1_len (rooted : Bool) (l : List GPart) : (globR1 rooted l).length ≤ 6 * lW l + 1 := by
  have h := shL_len false l
  unfold globR1
  split
  · simp only [List.length_cons]; omega
  · omega
theorem globR2_len (rooted dirs : Bool) (l : List GPart) : (globR2 rooted dirs l).length ≤ 6 * lW l + 3 := by
  have h := globR1_len rooted l
  unfold globR2
  split
  · rw [List.length_append, List.length_take]
    simp only [List.length_cons, List.length_nil]
    omega
  · omega
theorem globR3_len (rooted dirs : Bool) (l : List GPart) : (globR3 rooted dirs l).length ≤ 6 * lW l + 4 := by
  have h := globR2_len rooted dirs l
  unfold globR3
  split
  · simp only [List.length_cons]; omega
  · omega
theorem sh_pos {l : List GPart} (hc : chkL false l = 0) (h0 : l ≠ []) : 0 < (shL false l).length := by
  cases he : endsB l with
  | true =>
    obtain ⟨s, es, _⟩ := ends_yes (chk_kinds hc) he
    rw [es, List.length_append]; simp
  | false =>
    obtain ⟨s, c, es, _⟩ := ends_no (chk_kinds hc) (chk_texts hc) h0 he
    rw [es, List.length_append]; simp
theorem r1_pos {rooted : Bool} {l : List GPart} (h : 0 < (shL false l).length) : 0 < (globR1 rooted l).length := by
  unfold globR1
  split
  · simp
  · exact h
theorem last_ix {s : List UInt8} {c : UInt8} (h : s[s.length - 1]? = some c) : (s.getLast? == some 47) = (c == 47) := by
  rw [List.getLast?_eq_getElem?, h]; rfl
theorem chk_same {ro di : Bool} {l : List GPart} (hc : chkL false l = 0) (h0 : l ≠ []) : globR ro di l = globT ro di l := (glob_eq (chk_kinds hc) (chk_texts hc) h0).symm
theorem nm25 : (Tryd.f25.name == "runtime.NumGoroutine") = false := by kernel_rfl
set_option maxHeartbeats 4000000 in
theorem showGlob_fun (W0 : World) (ro di : Bool) (l : List GPart) (hl : lW l ≤ 1048576) (hc : chkL false l = 0) (h0 : l ≠ []) :
  PFun Tryd.prog W0 25 [.agg [pbool ro, pbool di, .ro false 5 (encL l)]] (.sv (.one (pstr (globT ro di l)))) := by
 intro h
 have hln := lW_len l
 have hsh := shL_len false l
 have hg1 := globR1_len ro l
 have hg2 := globR2_len ro di l
 have hg3 := globR3_len ro di l
 have hp0 := sh_pos hc h0
 have hp1 := r1_pos (rooted := ro) hp0
 obtain ⟨d, hd⟩ : ∃ d, (globR1 ro l)[(globR1 ro l).length - 1]? = some d := ⟨_, List.getElem?_eq_getElem (by omega)⟩
 have hlast := last_ix hd
 rw [← chk_same hc h0]
 have hw29 : IntKind.i64.wrap (((globR1 ro l).length : Int) - 1) = (((globR1 ro l).length - 1 : Nat) : Int) := by rw [wrap_i64 (by omega) (by omega)]; omega
 refine pcalls1 (n := 52) Tryd.func25 rfl nm25 rfl fun hb => ?_
 refine pwp_then fun N1 hN1 => ?_
 refine pwp_reg fun R2 hR2 => ?_
 refine pops_to rfl fun M hM => ?_
 simp only [pop, St.eval, upd_at, if_true, popBox, popBoxRo, slotCells]
 refine .inr ⟨Nat.succ_pos _, hM _ _ ?_⟩
 clear hM M
 refine pops_mv (.inr rfl) rfl (by simp only [St.eval, constSlot] <;> rfl) ?_
 refine pops_done (hR2 _ ?_)
 clear hR2 R2
 try simp only [thenK]
 refine hN1 _ ?_
 clear hN1 N1
 refine pwp_then fun N3 hN3 => ?_
 refine pwp_reg fun R4 hR4 => ?_
 refine pops_to rfl fun M hM => ?_
 simp only [pop, St.eval, upd_at, Nat.reduceEqDiff, if_true, if_false, popFieldAddr, fieldOf, List.drop_succ_cons, List.drop_zero, List.getElem?_toArray, List.getElem?_cons_zero, List.getElem?_cons_succ, Tryd.underlying24, sz22]
 refine ⟨⟨_, rfl⟩, hM _ _ ?_⟩
 clear hM M
 refine pops_to rfl fun M hM => ?_
 simp only [pop, St.eval, upd_at, Nat.reduceEqDiff, if_true, if_false, popLoad, loadK, isAggD, Bool.false_eq_true, Tryd.underlying22, sz22, eq_self]
 refine hM _ _ ?_
 clear hM M
 refine pops_to rfl fun M hM => ?_
 simp only [pop, St.eval, constSlot, upd_at, Nat.reduceEqDiff, if_true, if_false, popCall, List.map_nil, svs, List.mapM_cons, List.mapM_nil, Option.bind_eq_bind, Option.bind_some, Option.pure_def, List.append_nil]
 refine PFun.use (showParts_fun W0 l hl false hc false) fun h1 s1 => hM _ _ ?_
 replace s1 := Same.trans (Same.refl _) s1
 clear hM M
 refine pops_mv (.inr rfl) rfl (by simp only [St.eval, upd_at, Nat.reduceEqDiff, if_true, if_false] <;> rfl) ?_
 refine pops_done (hR4 _ ?_)
 clear hR4 R4
 try simp only [thenK]
 refine hN3 _ ?_
 clear hN3 N3
 refine pwp_then fun N5 hN5 => ?_
 refine pwp_then fun N6 hN6 => ?_
 refine pwp_reg fun R7 hR7 => ?_
 refine pops_to rfl fun M hM => ?_
 simp only [pop, St.eval, upd_at, Nat.reduceEqDiff, if_true, if_false, popFieldAddr, fieldOf, List.drop_zero, List.getElem?_toArray, List.getElem?_cons_zero, Tryd.underlying24, sz4]
 refine ⟨⟨_, rfl⟩, hM _ _ ?_⟩
 clear hM M
 refine pops_to rfl fun M hM => ?_
 simp only [pop, St.eval, upd_at, Nat.reduceEqDiff, if_true, if_false, popLoad, loadK, isAggD, Bool.false_eq_true, Tryd.underlying4, sz4, eq_self]
 refine hM _ _ ?_
 clear hM M
 refine pops_to rfl fun M hM => ?_
 simp only [pop, St.eval, upd_at, Nat.reduceEqDiff, if_true, if_false, unK]
 refine hM _ _ ?_
 clear hM M
 refine pops_mv (.inl rfl) rfl (by simp only [St.eval, upd_at, Nat.reduceEqDiff, if_true, if_false] <;> rfl) ?_
 apply pops_and 3 11 14 [12, 13] (by simp only [upd_at, Nat.reduceEqDiff, if_true, if_false] <;> rfl)
 ·skip
  intro g11_0 J8 hJ8
  simp only [List.take_succ_cons, List.take_zero]
  simp only [anyAt_cons, anyAt_nil] at hJ8
  refine pops_mvg (.inl rfl) rfl rfl (by simp only [upd_at, Nat.reduceEqDiff, if_true, if_false, g11_0]) (by simp only [St.eval, upd_at, Nat.reduceEqDiff, if_true, if_false, g11_0] <;> rfl) ?_
  refine pops_do rfl rfl (by simp only [upd_at, Nat.reduceEqDiff, if_true, if_false, g11_0]) fun M hM => ?_
  simp only [pop, St.eval, constSlot, upd_at, Nat.reduceEqDiff, if_true, if_false, popCall, List.map_nil, svs, List.mapM_cons, List.mapM_nil, Option.bind_eq_bind, Option.bind_some, Option.pure_def, List.append_nil, g11_0]
  refine PFun.use (hasPrefix_fun W0 (shL false l) [47]) fun h2 s2 => hM _ _ ?_
  replace s2 := Same.trans (Same.refl _) s2
  clear hM M
  refine pops_to rfl fun M hM => ?_
  simp only [pop, St.eval, constSlot, upd_at, Nat.reduceEqDiff, if_true, if_false, true_implies, false_implies, Bool.true_eq_false, reduceCtorEq, and_true, g11_0]
  refine hM _ _ ?_
  clear hM M
  exact pops_done (hJ8 _ _ s2 (wk_same (wk_any ((wk_any (Wk.refl _ _))))))
 ·skip
  intro g11_0 J8 hJ8
  simp only [List.take_succ_cons, List.take_zero]
  simp only [anyAt_cons, anyAt_nil] at hJ8
  refine pops_off (b := false) rfl rfl (by simp only [upd_at, Nat.reduceEqDiff, if_true, if_false, g11_0]) (by decide) ?_
  refine pops_off (b := false) rfl rfl (by simp only [upd_at, Nat.reduceEqDiff, if_true, if_false, g11_0]) (by decide) ?_
  refine pops_to rfl fun M hM => ?_
  simp only [pop, St.eval, constSlot, upd_at, Nat.reduceEqDiff, if_true, if_false, true_implies, false_implies, Bool.false_eq_true, reduceCtorEq, true_and, g11_0]
  refine hM _ _ ?_
  clear hM M
  exact pops_done (hJ8 _ _ (Same.refl _) (wk_same (wk_any ((wk_any (Wk.refl _ _))))))
 simp only [List.drop_succ_cons, List.drop_zero, anyAt_cons, anyAt_nil]
 intro hj8 sj8
 replace sj8 := Same.trans s1 sj8
 refine pops_done (hR7 _ ?_)
 clear hR7 R7
 try simp only [thenK]
 refine hN6 _ ?_
 clear hN6 N6
 refine pwp_cond (by simp only [St.eval, upd_at, Nat.reduceEqDiff, if_true, if_false] <;> rfl) (fun c14 => ?_) (fun c14 => ?_)
 ·skip
  have hc1 : (!ro && ((shL false l).head? == some 47)) = true := by rw [← pre_head]; exact c14
  have he1 : globR1 ro l = 92 :: shL false l := by rw [globR1, if_pos hc1]
  refine pwp_reg fun R9 hR9 => ?_
  refine pops_mv (.inl rfl) rfl (by simp only [St.eval, upd_at, Nat.reduceEqDiff, if_true, if_false] <;> rfl) ?_
  refine pops_to rfl fun M hM => ?_
  simp only [pop, St.eval, constSlot, upd_at, Nat.reduceEqDiff, if_true, if_false, popBin, binK, strK, eq_self, str_size, str_app]
  refine ⟨by first | omega | (simp only [List.length_cons, List.length_nil]; omega), hM _ _ ?_⟩
  clear hM M
  refine pops_mv (.inr rfl) rfl (by simp only [St.eval, upd_at, Nat.reduceEqDiff, if_true, if_false] <;> rfl) ?_
  refine pops_done (hR9 _ ?_)
  clear hR9 R9
  try simp only [thenK]
  refine hN5 _ ?_
  clear hN5 N5
  refine pwp_then fun N10 hN10 => ?_
  refine pwp_then fun N11 hN11 => ?_
  first
    | rw [show [92] ++ shL false l = globR1 ro l from by rw [he1]; rfl]
    | rw [show shL false l = globR1 ro l from he1.symm]
  refine pwp_reg fun R12 hR12 => ?_
  refine pops_mv (.inl rfl) rfl (by simp only [St.eval, upd_at, Nat.reduceEqDiff, if_true, if_false] <;> rfl) ?_
  refine pops_to rfl fun M hM => ?_
  simp only [pop, St.eval, upd_at, Nat.reduceEqDiff, if_true, if_false, popCall, List.map_cons, List.map_nil, popBuiltin, popLen, Tryd.underlying9, eq_self, str_size]
  refine hM _ _ ?_
  clear hM M
  refine pops_mv (.inr rfl) rfl (by simp only [St.eval, upd_at, Nat.reduceEqDiff, if_true, if_false] <;> rfl) ?_
  refine pops_done (hR12 _ ?_)
  clear hR12 R12
  try simp only [thenK]
  refine hN11 _ ?_
  clear hN11 N11
  refine pwp_then fun N13 hN13 => ?_
  refine pwp_reg fun R14 hR14 => ?_
  refine pops_to rfl fun M hM => ?_
  simp only [pop, St.eval, upd_at, Nat.reduceEqDiff, if_true, if_false, popFieldAddr, fieldOf, List.drop_succ_cons, List.drop_zero, List.getElem?_toArray, List.getElem?_cons_zero, List.getElem?_cons_succ, Tryd.underlying24, sz4]
  refine ⟨⟨_, rfl⟩, hM _ _ ?_⟩
  clear hM M
  refine pops_to rfl fun M hM => ?_
  simp only [pop, St.eval, upd_at, Nat.reduceEqDiff, if_true, if_false, popLoad, loadK, isAggD, Bool.false_eq_true, Tryd.underlying4, sz4, eq_self]
  refine hM _ _ ?_
  clear hM M
  refine pops_to rfl fun M hM => ?_
  simp only [pop, St.eval, upd_at, Nat.reduceEqDiff, if_true, if_false, unK]
  refine hM _ _ ?_
  clear hM M
  refine pops_mv (.inl rfl) rfl (by simp only [St.eval, upd_at, Nat.reduceEqDiff, if_true, if_false] <;> rfl) ?_
  apply pops_and0 3 22 25 [23, 24] (by simp only [upd_at, Nat.reduceEqDiff, if_true, if_false] <;> rfl)
  ·skip
   intro g22_0 J15 hJ15
   simp only [List.take_succ_cons, List.take_zero]
   simp only [anyAt_cons, anyAt_nil] at hJ15
   refine pops_mvg (.inl rfl) rfl rfl (by simp only [upd_at, Nat.reduceEqDiff, if_true, if_false, g22_0]) (by simp only [St.eval, upd_at, Nat.reduceEqDiff, if_true, if_false, g22_0] <;> rfl) ?_
   refine pops_do rfl rfl (by simp only [upd_at, Nat.reduceEqDiff, if_true, if_false, g22_0]) fun M hM => ?_
   simp only [pop, St.eval, constSlot, upd_at, Nat.reduceEqDiff, if_true, if_false, popBin, binK, intK, eq_self, true_and, g22_0]
   refine hM _ _ ?_
   clear hM M
   refine pops_to rfl fun M hM => ?_
   simp only [pop, St.eval, constSlot, upd_at, Nat.reduceEqDiff, if_true, if_false, true_implies, false_implies, Bool.true_eq_false, reduceCtorEq, and_true, g22_0]
   refine hM _ _ ?_
   clear hM M
   exact pops_done (hJ15 _ (wk_same (wk_any ((wk_any (Wk.refl _ _))))))
  ·skip
   intro g22_0 J15 hJ15
   simp only [List.take_succ_cons, List.take_zero]
   simp only [anyAt_cons, anyAt_nil] at hJ15
   refine pops_off (b := false) rfl rfl (by simp only [upd_at, Nat.reduceEqDiff, if_true, if_false, g22_0]) (by decide) ?_
   refine pops_off (b := false) rfl rfl (by simp only [upd_at, Nat.reduceEqDiff, if_true, if_false, g22_0]) (by decide) ?_
   refine pops_to rfl fun M hM => ?_
   simp only [pop, St.eval, constSlot, upd_at, Nat.reduceEqDiff, if_true, if_false, true_implies, false_implies, Bool.false_eq_true, reduceCtorEq, true_and, g22_0]
   refine hM _ _ ?_
   clear hM M
   exact pops_done (hJ15 _ (wk_same (wk_any ((wk_any (Wk.refl _ _))))))
  simp only [List.drop_succ_cons, List.drop_zero, anyAt_cons, anyAt_nil]
  refine pops_mv (.inl rfl) rfl (by simp only [St.eval, upd_at, Nat.reduceEqDiff, if_true, if_false] <;> rfl) ?_
  apply pops_and0 6 26 32 [27, 28, 29, 30, 31] (by simp only [upd_at, Nat.reduceEqDiff, if_true, if_false] <;> rfl)
  ·skip
   intro g26_0 J16 hJ16
   simp only [List.take_succ_cons, List.take_zero]
   simp only [anyAt_cons, anyAt_nil] at hJ16
   refine pops_mvg (.inl rfl) rfl rfl (by simp only [upd_at, Nat.reduceEqDiff, if_true, if_false, g26_0]) (by simp only [St.eval, upd_at, Nat.reduceEqDiff, if_true, if_false, g26_0] <;> rfl) ?_
   refine pops_mvg (.inl rfl) rfl rfl (by simp only [upd_at, Nat.reduceEqDiff, if_true, if_false, g26_0]) (by simp only [St.eval, upd_at, Nat.reduceEqDiff, if_true, if_false, g26_0] <;> rfl) ?_
   refine pops_do rfl rfl (by simp only [upd_at, Nat.reduceEqDiff, if_true, if_false, g26_0]) fun M hM => ?_
   simp only [pop, St.eval, constSlot, upd_at, Nat.reduceEqDiff, if_true, if_false, popBin, binK, intK, eq_self, true_and, g26_0, hw29]
   refine hM _ _ ?_
   clear hM M
   refine pops_do rfl rfl (by simp only [upd_at, Nat.reduceEqDiff, if_true, if_false, g26_0]) fun M hM => ?_
   simp only [pop, St.eval, upd_at, Nat.reduceEqDiff, if_true, if_false, popIndex, Tryd.underlying9, eq_self, str_get, g26_0, hd, Int.toNat_natCast]
   refine ⟨Int.natCast_nonneg _, hM _ _ ?_⟩
   clear hM M
   refine pops_do rfl rfl (by simp only [upd_at, Nat.reduceEqDiff, if_true, if_false, g26_0]) fun M hM => ?_
   simp only [pop, St.eval, constSlot, upd_at, Nat.reduceEqDiff, if_true, if_false, popBin, binK, intK, eq_self, true_and, g26_0, u8_47]
   refine hM _ _ ?_
   clear hM M
   refine pops_to rfl fun M hM => ?_
   simp only [pop, St.eval, constSlot, upd_at, Nat.reduceEqDiff, if_true, if_false, true_implies, false_implies, Bool.true_eq_false, reduceCtorEq, and_true, g26_0]
   refine hM _ _ ?_
   clear hM M
   exact pops_done (hJ16 _ (wk_same (wk_any ((wk_any ((wk_any ((wk_any ((wk_any (Wk.refl _ _))))))))))))
  ·skip
   intro g26_0 J16 hJ16
   simp only [List.take_succ_cons, List.take_zero]
   simp only [anyAt_cons, anyAt_nil] at hJ16
   refine pops_off (b := false) rfl rfl (by simp only [upd_at, Nat.reduceEqDiff, if_true, if_false, g26_0]) (by decide) ?_
   refine pops_off (b := false) rfl rfl (by simp only [upd_at, Nat.reduceEqDiff, if_true, if_false, g26_0]) (by decide) ?_
   refine pops_off (b := false) rfl rfl (by simp only [upd_at, Nat.reduceEqDiff, if_true, if_false, g26_0]) (by decide) ?_
   refine pops_off (b := false) rfl rfl (by simp only [upd_at, Nat.reduceEqDiff, if_true, if_false, g26_0]) (by decide) ?_
   refine pops_off (b := false) rfl rfl (by simp only [upd_at, Nat.reduceEqDiff, if_true, if_false, g26_0]) (by decide) ?_
   refine pops_to rfl fun M hM => ?_
   simp only [pop, St.eval, constSlot, upd_at, Nat.reduceEqDiff, if_true, if_false, true_implies, false_implies, Bool.false_eq_true, reduceCtorEq, true_and, g26_0]
   refine hM _ _ ?_
   clear hM M
   exact pops_done (hJ16 _ (wk_same (wk_any ((wk_any ((wk_any ((wk_any ((wk_any (Wk.refl _ _))))))))))))
  simp only [List.drop_succ_cons, List.drop_zero, anyAt_cons, anyAt_nil]
  refine pops_mv (.inl rfl) rfl (by simp only [St.eval, upd_at, Nat.reduceEqDiff, if_true, if_false] <;> rfl) ?_
  apply pops_and 4 33 37 [34, 35, 36] (by simp only [upd_at, Nat.reduceEqDiff, if_true, if_false] <;> rfl)
  ·skip
   intro g33_0 J17 hJ17
   simp only [List.take_succ_cons, List.take_zero]
   simp only [anyAt_cons, anyAt_nil] at hJ17
   refine pops_mvg (.inl rfl) rfl rfl (by simp only [upd_at, Nat.reduceEqDiff, if_true, if_false, g33_0]) (by simp only [St.eval, upd_at, Nat.reduceEqDiff, if_true, if_false, g33_0] <;> rfl) ?_
   refine pops_do rfl rfl (by simp only [upd_at, Nat.reduceEqDiff, if_true, if_false, g33_0]) fun M hM => ?_
   simp only [pop, St.eval, constSlot, upd_at, Nat.reduceEqDiff, if_true, if_false, popCall, List.map_nil, svs, List.mapM_cons, List.mapM_nil, Option.bind_eq_bind, Option.bind_some, Option.pure_def, List.append_nil, g33_0]
   refine PFun.use (quoted_fun W0 (globR1 ro l) hp1 (by omega)) fun h3 s3 => hM _ _ ?_
   replace s3 := Same.trans (Same.refl _) s3
   clear hM M
   refine pops_do rfl rfl (by simp only [upd_at, Nat.reduceEqDiff, if_true, if_false, g33_0]) fun M hM => ?_
   simp only [pop, St.eval, upd_at, Nat.reduceEqDiff, if_true, if_false, unK, g33_0]
   refine hM _ _ ?_
   clear hM M
   refine pops_to rfl fun M hM => ?_
   simp only [pop, St.eval, constSlot, upd_at, Nat.reduceEqDiff, if_true, if_false, true_implies, false_implies, Bool.true_eq_false, reduceCtorEq, and_true, g33_0]
   refine hM _ _ ?_
   clear hM M
   exact pops_done (hJ17 _ _ s3 (wk_same (wk_any ((wk_any ((wk_any (Wk.refl _ _))))))))
  ·skip
   intro g33_0 J17 hJ17
   simp only [List.take_succ_cons, List.take_zero]
   simp only [anyAt_cons, anyAt_nil] at hJ17
   refine pops_off (b := false) rfl rfl (by simp only [upd_at, Nat.reduceEqDiff, if_true, if_false, g33_0]) (by decide) ?_
   refine pops_off (b := false) rfl rfl (by simp only [upd_at, Nat.reduceEqDiff, if_true, if_false, g33_0]) (by decide) ?_
   refine pops_off (b := false) rfl rfl (by simp only [upd_at, Nat.reduceEqDiff, if_true, if_false, g33_0]) (by decide) ?_
   refine pops_to rfl fun M hM => ?_
   simp only [pop, St.eval, constSlot, upd_at, Nat.reduceEqDiff, if_true, if_false, true_implies, false_implies, Bool.false_eq_true, reduceCtorEq, true_and, g33_0]
   refine hM _ _ ?_
   clear hM M
   exact pops_done (hJ17 _ _ (Same.refl _) (wk_same (wk_any ((wk_any ((wk_any (Wk.refl _ _))))))))
  simp only [List.drop_succ_cons, List.drop_zero, anyAt_cons, anyAt_nil]
  intro hj17 sj17
  replace sj17 := Same.trans sj8 sj17
  refine pops_done (hR14 _ ?_)
  clear hR14 R14
  try simp only [thenK]
  refine hN13 _ ?_
  clear hN13 N13
  refine pwp_cond (by simp only [St.eval, upd_at, Nat.reduceEqDiff, if_true, if_false] <;> rfl) (fun c37 => ?_) (fun c37 => ?_)
  ·skip
   have hc2 : (!di && (((globR1 ro l).getLast? == some 47) && !quotB (globR1 ro l))) = true := by
     rw [hlast]
     simp only [Bool.and_eq_true] at c37 ⊢
     exact ⟨c37.1.1.1, c37.1.2, c37.2⟩
   have he2 : globR2 ro di l = (globR1 ro l).take ((globR1 ro l).length - 1) ++ [92, 47] := by rw [globR2, if_pos hc2]
   refine pwp_reg fun R18 hR18 => ?_
   refine pops_mv (.inl rfl) rfl (by simp only [St.eval, upd_at, Nat.reduceEqDiff, if_true, if_false] <;> rfl) ?_
   refine pops_mv (.inl rfl) rfl (by simp only [St.eval, upd_at, Nat.reduceEqDiff, if_true, if_false] <;> rfl) ?_
   refine pops_to rfl fun M hM => ?_
   simp only [pop, St.eval, constSlot, upd_at, Nat.reduceEqDiff, if_true, if_false, popBin, binK, intK, eq_self, true_and, hw29]
   refine hM _ _ ?_
   clear hM M
   refine pops_to rfl fun M hM => ?_
   simp only [pop, St.eval, upd_at, Nat.reduceEqDiff, if_true, if_false, popSlice, boundOf, Option.map_none, Option.map_some, Tryd.underlying9, eq_self, str_size, str_cut, Int.toNat_natCast, List.drop_zero]
   refine ⟨Int.le_refl _, Int.natCast_nonneg _, by omega, hM _ _ ?_⟩
   clear hM M
   refine pops_to rfl fun M hM => ?_
   simp only [pop, St.eval, constSlot, upd_at, Nat.reduceEqDiff, if_true, if_false, popBin, binK, strK, eq_self, str_size, str_app]
   refine ⟨by first | omega | (simp only [List.length_take, List.length_cons, List.length_nil]; omega), hM _ _ ?_⟩
   clear hM M
   refine pops_mv (.inr rfl) rfl (by simp only [St.eval, upd_at, Nat.reduceEqDiff, if_true, if_false] <;> rfl) ?_
   refine pops_done (hR18 _ ?_)
   clear hR18 R18
   try simp only [thenK]
   refine hN10 _ ?_
   clear hN10 N10
   refine pwp_then fun N19 hN19 => ?_
   refine pwp_then fun N20 hN20 => ?_
   refine pwp_reg fun R21 hR21 => ?_
   refine pops_to rfl fun M hM => ?_
   simp only [pop, St.eval, upd_at, Nat.reduceEqDiff, if_true, if_false, popFieldAddr, fieldOf, List.drop_zero, List.getElem?_toArray, List.getElem?_cons_zero, Tryd.underlying24, sz4]
   refine ⟨⟨_, rfl⟩, hM _ _ ?_⟩
   clear hM M
   refine pops_to rfl fun M hM => ?_
   simp only [pop, St.eval, upd_at, Nat.reduceEqDiff, if_true, if_false, popLoad, loadK, isAggD, Bool.false_eq_true, Tryd.underlying4, sz4, eq_self]
   refine hM _ _ ?_
   clear hM M
   refine pops_done (hR21 _ ?_)
   clear hR21 R21
   try simp only [thenK]
   refine hN20 _ ?_
   clear hN20 N20
   refine pwp_cond (by simp only [St.eval, upd_at, Nat.reduceEqDiff, if_true, if_false] <;> rfl) (fun c44 => ?_) (fun c44 => ?_)
   ·skip
    have he3 : globR3 ro di l = 47 :: globR2 ro di l := by rw [globR3, if_pos c44]
    refine pwp_reg fun R22 hR22 => ?_
    refine pops_mv (.inl rfl) rfl (by simp only [St.eval, upd_at, Nat.reduceEqDiff, if_true, if_false] <;> rfl) ?_
    refine pops_to rfl fun M hM => ?_
    simp only [pop, St.eval, constSlot, upd_at, Nat.reduceEqDiff, if_true, if_false, popBin, binK, strK, eq_self, str_size, str_app]
    refine ⟨by first | omega | (simp only [List.length_append, List.length_take, List.length_cons, List.length_nil]; omega), hM _ _ ?_⟩
    clear hM M
    refine pops_mv (.inr rfl) rfl (by simp only [St.eval, upd_at, Nat.reduceEqDiff, if_true, if_false] <;> rfl) ?_
    refine pops_done (hR22 _ ?_)
    clear hR22 R22
    try simp only [thenK]
    refine hN19 _ ?_
    clear hN19 N19
    refine pwp_then fun N23 hN23 => ?_
    refine pwp_then fun N24 hN24 => ?_
    refine pwp_reg fun R25 hR25 => ?_
    refine pops_to rfl fun M hM => ?_
    simp only [pop, St.eval, upd_at, Nat.reduceEqDiff, if_true, if_false, popFieldAddr, fieldOf, List.drop_succ_cons, List.drop_zero, List.getElem?_toArray, List.getElem?_cons_zero, List.getElem?_cons_succ, Tryd.underlying24, sz4]
    refine ⟨⟨_, rfl⟩, hM _ _ ?_⟩
    clear hM M
    refine pops_to rfl fun M hM => ?_
    simp only [pop, St.eval, upd_at, Nat.reduceEqDiff, if_true, if_false, popLoad, loadK, isAggD, Bool.false_eq_true, Tryd.underlying4, sz4, eq_self]
    refine hM _ _ ?_
    clear hM M
    refine pops_done (hR25 _ ?_)
    clear hR25 R25
    try simp only [thenK]
    refine hN24 _ ?_
    clear hN24 N24
    refine pwp_cond (by simp only [St.eval, upd_at, Nat.reduceEqDiff, if_true, if_false] <;> rfl) (fun c48 => ?_) (fun c48 => ?_)
    ·skip
     have he4 : globR ro di l = globR3 ro di l ++ [47] := by rw [globR_3, if_pos c48]
     refine pwp_reg fun R26 hR26 => ?_
     refine pops_mv (.inl rfl) rfl (by simp only [St.eval, upd_at, Nat.reduceEqDiff, if_true, if_false] <;> rfl) ?_
     refine pops_to rfl fun M hM => ?_
     simp only [pop, St.eval, constSlot, upd_at, Nat.reduceEqDiff, if_true, if_false, popBin, binK, strK, eq_self, str_size, str_app]
     refine ⟨by first | omega | (simp only [List.length_append, List.length_take, List.length_cons, List.length_nil]; omega), hM _ _ ?_⟩
     clear hM M
     refine pops_mv (.inr rfl) rfl (by simp only [St.eval, upd_at, Nat.reduceEqDiff, if_true, if_false] <;> rfl) ?_
     refine pops_done (hR26 _ ?_)
     clear hR26 R26
     try simp only [thenK]
     refine hN23 _ ?_
     clear hN23 N23
     refine pwp_then fun N27 hN27 => ?_
     refine pwp_reg fun R28 hR28 => ?_
     refine pops_mv (.inl rfl) rfl (by simp only [St.eval, upd_at, Nat.reduceEqDiff, if_true, if_false] <;> rfl) ?_
     refine pops_mv (.inr rfl) rfl (by simp only [St.eval, upd_at, Nat.reduceEqDiff, if_true, if_false] <;> rfl) ?_
     refine pops_done (hR28 _ ?_)
     clear hR28 R28
     try simp only [thenK]
     refine hN27 _ ?_
     clear hN27 N27
     refine pwp_ret ?_
     simp only [bodyK]
     refine ⟨_, rfl, endFun sj17 ?_⟩
     try simp only [upd_at, Nat.reduceEqDiff, if_true, if_false]
     all_goals
      first
        | (rw [he4, he3, he2]; done)
        | (rw [he4, he3, he2]; rfl)
    ·skip
     have he4 : globR ro di l = globR3 ro di l := by rw [globR_3, if_neg (by rw [c48]; decide)]
     refine pwp_skip ?_
     try simp only [thenK]
     refine hN23 _ ?_
     clear hN23 N23
     refine pwp_then fun N29 hN29 => ?_
     refine pwp_reg fun R30 hR30 => ?_
     refine pops_mv (.inl rfl) rfl (by simp only [St.eval, upd_at, Nat.reduceEqDiff, if_true, if_false] <;> rfl) ?_
     refine pops_mv (.inr rfl) rfl (by simp only [St.eval, upd_at, Nat.reduceEqDiff, if_true, if_false] <;> rfl) ?_
     refine pops_done (hR30 _ ?_)
     clear hR30 R30
     try simp only [thenK]
     refine hN29 _ ?_
     clear hN29 N29
     refine pwp_ret ?_
     simp only [bodyK]
     refine ⟨_, rfl, endFun sj17 ?_⟩
     try simp only [upd_at, Nat.reduceEqDiff, if_true, if_false]
     all_goals
      first
        | (rw [he4, he3, he2]; done)
        | (rw [he4, he3, he2]; rfl)
   ·skip
    have he3 : globR3 ro di l = globR2 ro di l := by rw [globR3, if_neg (by rw [c44]; decide)]
    refine pwp_skip ?_
    try simp only [thenK]
    refine hN19 _ ?_
    clear hN19 N19
    refine pwp_then fun N31 hN31 => ?_
    refine pwp_then fun N32 hN32 => ?_
    refine pwp_reg fun R33 hR33 => ?_
    refine pops_to rfl fun M hM => ?_
    simp only [pop, St.eval, upd_at, Nat.reduceEqDiff, if_true, if_false, popFieldAddr, fieldOf, List.drop_succ_cons, List.drop_zero, List.getElem?_toArray, List.getElem?_cons_zero, List.getElem?_cons_succ, Tryd.underlying24, sz4]
    refine ⟨⟨_, rfl⟩, hM _ _ ?_⟩
    clear hM M
    refine pops_to rfl fun M hM => ?_
    simp only [pop, St.eval, upd_at, Nat.reduceEqDiff, if_true, if_false, popLoad, loadK, isAggD, Bool.false_eq_true, Tryd.underlying4, sz4, eq_self]
    refine hM _ _ ?_
    clear hM M
    refine pops_done (hR33 _ ?_)
    clear hR33 R33
    try simp only [thenK]
    refine hN32 _ ?_
    clear hN32 N32
    refine pwp_cond (by simp only [St.eval, upd_at, Nat.reduceEqDiff, if_true, if_false] <;> rfl) (fun c48 => ?_) (fun c48 => ?_)
    ·skip
     have he4 : globR ro di l = globR3 ro di l ++ [47] := by rw [globR_3, if_pos c48]
     refine pwp_reg fun R34 hR34 => ?_
     refine pops_mv (.inl rfl) rfl (by simp only [St.eval, upd_at, Nat.reduceEqDiff, if_true, if_false] <;> rfl) ?_
     refine pops_to rfl fun M hM => ?_
     simp only [pop, St.eval, constSlot, upd_at, Nat.reduceEqDiff, if_true, if_false, popBin, binK, strK, eq_self, str_size, str_app]
     refine ⟨by first | omega | (simp only [List.length_append, List.length_take, List.length_cons, List.length_nil]; omega), hM _ _ ?_⟩
     clear hM M
     refine pops_mv (.inr rfl) rfl (by simp only [St.eval, upd_at, Nat.reduceEqDiff, if_true, if_false] <;> rfl) ?_
     refine pops_done (hR34 _ ?_)
     clear hR34 R34
     try simp only [thenK]
     refine hN31 _ ?_
     clear hN31 N31
     refine pwp_then fun N35 hN35 => ?_
     refine pwp_reg fun R36 hR36 => ?_
     refine pops_mv (.inl rfl) rfl (by simp only [St.eval, upd_at, Nat.reduceEqDiff, if_true, if_false] <;> rfl) ?_
     refine pops_mv (.inr rfl) rfl (by simp only [St.eval, upd_at, Nat.reduceEqDiff, if_true, if_false] <;> rfl) ?_
     refine pops_done (hR36 _ ?_)
     clear hR36 R36
     try simp only [thenK]
     refine hN35 _ ?_
     clear hN35 N35
     refine pwp_ret ?_
     simp only [bodyK]
     refine ⟨_, rfl, endFun sj17 ?_⟩
     try simp only [upd_at, Nat.reduceEqDiff, if_true, if_false]
     all_goals
      first
        | (rw [he4, he3, he2]; done)
        | (rw [he4, he3, he2]; rfl)
    ·skip
     have he4 : globR ro di l = globR3 ro di l := by rw [globR_3, if_neg (by rw [c48]; decide)]
     refine pwp_skip ?_
     try simp only [thenK]
     refine hN31 _ ?_
     clear hN31 N31
     refine pwp_then fun N37 hN37 => ?_
     refine pwp_reg fun R38 hR38 => ?_
     refine pops_mv (.inl rfl) rfl (by simp only [St.eval, upd_at, Nat.reduceEqDiff, if_true, if_false] <;> rfl) ?_
     refine pops_mv (.inr rfl) rfl (by simp only [St.eval, upd_at, Nat.reduceEqDiff, if_true, if_false] <;> rfl) ?_
     refine pops_done (hR38 _ ?_)
     clear hR38 R38
     try simp only [thenK]
     refine hN37 _ ?_
     clear hN37 N37
     refine pwp_ret ?_
     simp only [bodyK]
     refine ⟨_, rfl, endFun sj17 ?_⟩
     try simp only [upd_at, Nat.reduceEqDiff, if_true, if_false]
     all_goals
      first
        | (rw [he4, he3, he2]; done)
        | (rw [he4, he3, he2]; rfl)
  ·skip
   have hc2 : ¬ (!di && (((globR1 ro l).getLast? == some 47) && !quotB (globR1 ro l))) = true := by
     rw [hlast]
     intro h9
     simp only [Bool.and_eq_true] at h9
     rw [h9.1, h9.2.1, h9.2.2, decide_eq_true (by omega)] at c37
     exact absurd c37 (by decide)
   have he2 : globR2 ro di l = globR1 ro l := by rw [globR2, if_neg hc2]
   refine pwp_skip ?_
   try simp only [thenK]
   refine hN10 _ ?_
   clear hN10 N10
   refine pwp_then fun N39 hN39 => ?_
   refine pwp_then fun N40 hN40 => ?_
   refine pwp_reg fun R41 hR41 => ?_
   refine pops_to rfl fun M hM => ?_
   simp only [pop, St.eval, upd_at, Nat.reduceEqDiff, if_true, if_false, popFieldAddr, fieldOf, List.drop_zero, List.getElem?_toArray, List.getElem?_cons_zero, Tryd.underlying24, sz4]
   refine ⟨⟨_, rfl⟩, hM _ _ ?_⟩
   clear hM M
   refine pops_to rfl fun M hM => ?_
   simp only [pop, St.eval, upd_at, Nat.reduceEqDiff, if_true, if_false, popLoad, loadK, isAggD, Bool.false_eq_true, Tryd.underlying4, sz4, eq_self]
   refine hM _ _ ?_
   clear hM M
   refine pops_done (hR41 _ ?_)
   clear hR41 R41
   try simp only [thenK]
   refine hN40 _ ?_
   clear hN40 N40
   refine pwp_cond (by simp only [St.eval, upd_at, Nat.reduceEqDiff, if_true, if_false] <;> rfl) (fun c44 => ?_) (fun c44 => ?_)
   ·skip
    have he3 : globR3 ro di l = 47 :: globR2 ro di l := by rw [globR3, if_pos c44]
    refine pwp_reg fun R42 hR42 => ?_
    refine pops_mv (.inl rfl) rfl (by simp only [St.eval, upd_at, Nat.reduceEqDiff, if_true, if_false] <;> rfl) ?_
    refine pops_to rfl fun M hM => ?_
    simp only [pop, St.eval, constSlot, upd_at, Nat.reduceEqDiff, if_true, if_false, popBin, binK, strK, eq_self, str_size, str_app]
    refine ⟨by first | omega | (simp only [List.length_cons, List.length_nil]; omega), hM _ _ ?_⟩
    clear hM M
    refine pops_mv (.inr rfl) rfl (by simp only [St.eval, upd_at, Nat.reduceEqDiff, if_true, if_false] <;> rfl) ?_
    refine pops_done (hR42 _ ?_)
    clear hR42 R42
    try simp only [thenK]
    refine hN39 _ ?_
    clear hN39 N39
    refine pwp_then fun N43 hN43 => ?_
    refine pwp_then fun N44 hN44 => ?_
    refine pwp_reg fun R45 hR45 => ?_
    refine pops_to rfl fun M hM => ?_
    simp only [pop, St.eval, upd_at, Nat.reduceEqDiff, if_true, if_false, popFieldAddr, fieldOf, List.drop_succ_cons, List.drop_zero, List.getElem?_toArray, List.getElem?_cons_zero, List.getElem?_cons_succ, Tryd.underlying24, sz4]
    refine ⟨⟨_, rfl⟩, hM _ _ ?_⟩
    clear hM M
    refine pops_to rfl fun M hM => ?_
    simp only [pop, St.eval, upd_at, Nat.reduceEqDiff, if_true, if_false, popLoad, loadK, isAggD, Bool.false_eq_true, Tryd.underlying4, sz4, eq_self]
    refine hM _ _ ?_
    clear hM M
    refine pops_done (hR45 _ ?_)
    clear hR45 R45
    try simp only [thenK]
    refine hN44 _ ?_
    clear hN44 N44
    refine pwp_cond (by simp only [St.eval, upd_at, Nat.reduceEqDiff, if_true, if_false] <;> rfl) (fun c48 => ?_) (fun c48 => ?_)
    ·skip
     have he4 : globR ro di l = globR3 ro di l ++ [47] := by rw [globR_3, if_pos c48]
     refine pwp_reg fun R46 hR46 => ?_
     refine pops_mv (.inl rfl) rfl (by simp only [St.eval, upd_at, Nat.reduceEqDiff, if_true, if_false] <;> rfl) ?_
     refine pops_to rfl fun M hM => ?_
     simp only [pop, St.eval, constSlot, upd_at, Nat.reduceEqDiff, if_true, if_false, popBin, binK, strK, eq_self, str_size, str_app]
     refine ⟨by first | omega | (simp only [List.length_append, List.length_cons, List.length_nil]; omega), hM _ _ ?_⟩
     clear hM M
     refine pops_mv (.inr rfl) rfl (by simp only [St.eval, upd_at, Nat.reduceEqDiff, if_true, if_false] <;> rfl) ?_
     refine pops_done (hR46 _ ?_)
     clear hR46 R46
     try simp only [thenK]
     refine hN43 _ ?_
     clear hN43 N43
     refine pwp_then fun N47 hN47 => ?_
     refine pwp_reg fun R48 hR48 => ?_
     refine pops_mv (.inl rfl) rfl (by simp only [St.eval, upd_at, Nat.reduceEqDiff, if_true, if_false] <;> rfl) ?_
     refine pops_mv (.inr rfl) rfl (by simp only [St.eval, upd_at, Nat.reduceEqDiff, if_true, if_false] <;> rfl) ?_
     refine pops_done (hR48 _ ?_)
     clear hR48 R48
     try simp only [thenK]
     refine hN47 _ ?_
     clear hN47 N47
     refine pwp_ret ?_
     simp only [bodyK]
     refine ⟨_, rfl, endFun sj17 ?_⟩
     try simp only [upd_at, Nat.reduceEqDiff, if_true, if_false]
     all_goals
      first
        | (rw [he4, he3, he2]; done)
        | (rw [he4, he3, he2]; rfl)
    ·skip
     have he4 : globR ro di l = globR3 ro di l := by rw [globR_3, if_neg (by rw [c48]; decide)]
     refine pwp_skip ?_
     try simp only [thenK]
     refine hN43 _ ?_
     clear hN43 N43
     refine pwp_then fun N49 hN49 => ?_
     refine pwp_reg fun R50 hR50 => ?_
     refine pops_mv (.inl rfl) rfl (by simp only [St.eval, upd_at, Nat.reduceEqDiff, if_true, if_false] <;> rfl) ?_
     refine pops_mv (.inr rfl) rfl (by simp only [St.eval, upd_at, Nat.reduceEqDiff, if_true, if_false] <;> rfl) ?_
     refine pops_done (hR50 _ ?_)
     clear hR50 R50
     try simp only [thenK]
     refine hN49 _ ?_
     clear hN49 N49
     refine pwp_ret ?_
     simp only [bodyK]
     refine ⟨_, rfl, endFun sj17 ?_⟩
     try simp only [upd_at, Nat.reduceEqDiff, if_true, if_false]
     all_goals
      first
        | (rw [he4, he3, he2]; done)
        | (rw [he4, he3, he2]; rfl)
   ·skip
    have he3 : globR3 ro di l = globR2 ro di l := by rw [globR3, if_neg (by rw [c44]; decide)]
    refine pwp_skip ?_
    try simp only [thenK]
    refine hN39 _ ?_
    clear hN39 N39
    refine pwp_then fun N51 hN51 => ?_
    refine pwp_then fun N52 hN52 => ?_
    refine pwp_reg fun R53 hR53 => ?_
    refine pops_to rfl fun M hM => ?_
    simp only [pop, St.eval, upd_at, Nat.reduceEqDiff, if_true, if_false, popFieldAddr, fieldOf, List.drop_succ_cons, List.drop_zero, List.getElem?_toArray, List.getElem?_cons_zero, List.getElem?_cons_succ, Tryd.underlying24, sz4]
    refine ⟨⟨_, rfl⟩, hM _ _ ?_⟩
    clear hM M
    refine pops_to rfl fun M hM => ?_
    simp only [pop, St.eval, upd_at, Nat.reduceEqDiff, if_true, if_false, popLoad, loadK, isAggD, Bool.false_eq_true, Tryd.underlying4, sz4, eq_self]
    refine hM _ _ ?_
    clear hM M
    refine pops_done (hR53 _ ?_)
    clear hR53 R53
    try simp only [thenK]
    refine hN52 _ ?_
    clear hN52 N52
    refine pwp_cond (by simp only [St.eval, upd_at, Nat.reduceEqDiff, if_true, if_false] <;> rfl) (fun c48 => ?_) (fun c48 => ?_)
    ·skip
     have he4 : globR ro di l = globR3 ro di l ++ [47] := by rw [globR_3, if_pos c48]
     refine pwp_reg fun R54 hR54 => ?_
     refine pops_mv (.inl rfl) rfl (by simp only [St.eval, upd_at, Nat.reduceEqDiff, if_true, if_false] <;> rfl) ?_
     refine pops_to rfl fun M hM => ?_
     simp only [pop, St.eval, constSlot, upd_at, Nat.reduceEqDiff, if_true, if_false, popBin, binK, strK, eq_self, str_size, str_app]
     refine ⟨by first | omega | (simp only [List.length_cons, List.length_nil]; omega), hM _ _ ?_⟩
     clear hM M
     refine pops_mv (.inr rfl) rfl (by simp only [St.eval, upd_at, Nat.reduceEqDiff, if_true, if_false] <;> rfl) ?_
     refine pops_done (hR54 _ ?_)
     clear hR54 R54
     try simp only [thenK]
     refine hN51 _ ?_
     clear hN51 N51
     refine pwp_then fun N55 hN55 => ?_
     refine pwp_reg fun R56 hR56 => ?_
     refine pops_mv (.inl rfl) rfl (by simp only [St.eval, upd_at, Nat.reduceEqDiff, if_true, if_false] <;> rfl) ?_
     refine pops_mv (.inr rfl) rfl (by simp only [St.eval, upd_at, Nat.reduceEqDiff, if_true, if_false] <;> rfl) ?_
     refine pops_done (hR56 _ ?_)
     clear hR56 R56
     try simp only [thenK]
     refine hN55 _ ?_
     clear hN55 N55
     refine pwp_ret ?_
     simp only [bodyK]
     refine ⟨_, rfl, endFun sj17 ?_⟩
     try simp only [upd_at, Nat.reduceEqDiff, if_true, if_false]
     all_goals
      first
        | (rw [he4, he3, he2]; done)
        | (rw [he4, he3, he2]; rfl)
    ·skip
     have he4 : globR ro di l = globR3 ro di l := by rw [globR_3, if_neg (by rw [c48]; decide)]
     refine pwp_skip ?_
     try simp only [thenK]
     refine hN51 _ ?_
     clear hN51 N51
     refine pwp_then fun N57 hN57 => ?_
     refine pwp_reg fun R58 hR58 => ?_
     refine pops_mv (.inl rfl) rfl (by simp only [St.eval, upd_at, Nat.reduceEqDiff, if_true, if_false] <;> rfl) ?_
     refine pops_mv (.inr rfl) rfl (by simp only [St.eval, upd_at, Nat.reduceEqDiff, if_true, if_false] <;> rfl) ?_
     refine pops_done (hR58 _ ?_)
     clear hR58 R58
     try simp only [thenK]
     refine hN57 _ ?_
     clear hN57 N57
     refine pwp_ret ?_
     simp only [bodyK]
     refine ⟨_, rfl, endFun sj17 ?_⟩
     try simp only [upd_at, Nat.reduceEqDiff, if_true, if_false]
     all_goals
      first
        | (rw [he4, he3, he2]; done)
        | (rw [he4, he3, he2]; rfl)
 ·skip
  have hc1 : ¬ (!ro && ((shL false l).head? == some 47)) = true := by rw [← pre_head, c14]; decide
  have he1 : globR1 ro l = shL false l := by rw [globR1, if_neg hc1]
  refine pwp_skip ?_
  try simp only [thenK]
  refine hN5 _ ?_
  clear hN5 N5
  refine pwp_then fun N59 hN59 => ?_
  refine pwp_then fun N60 hN60 => ?_
  first
    | rw [show [92] ++ shL false l = globR1 ro l from by rw [he1]; rfl]
    | rw [show shL false l = globR1 ro l from he1.symm]
  refine pwp_reg fun R61 hR61 => ?_
  refine pops_mv (.inl rfl) rfl (by simp only [St.eval, upd_at, Nat.reduceEqDiff, if_true, if_false] <;> rfl) ?_
  refine pops_to rfl fun M hM => ?_
  simp only [pop, St.eval, upd_at, Nat.reduceEqDiff, if_true, if_false, popCall, List.map_cons, List.map_nil, popBuiltin, popLen, Tryd.underlying9, eq_self, str_size]
  refine hM _ _ ?_
  clear hM M
  refine pops_mv (.inr rfl) rfl (by simp only [St.eval, upd_at, Nat.reduceEqDiff, if_true, if_false] <;> rfl) ?_
  refine pops_done (hR61 _ ?_)
  clear hR61 R61
  try simp only [thenK]
  refine hN60 _ ?_
  clear hN60 N60
  refine pwp_then fun N62 hN62 => ?_
  refine pwp_reg fun R63 hR63 => ?_
  refine pops_to rfl fun M hM => ?_
  simp only [pop, St.eval, upd_at, Nat.reduceEqDiff, if_true, if_false, popFieldAddr, fieldOf, List.drop_succ_cons, List.drop_zero, List.getElem?_toArray, List.getElem?_cons_zero, List.getElem?_cons_succ, Tryd.underlying24, sz4]
  refine ⟨⟨_, rfl⟩, hM _ _ ?_⟩
  clear hM M
  refine pops_to rfl fun M hM => ?_
  simp only [pop, St.eval, upd_at, Nat.reduceEqDiff, if_true, if_false, popLoad, loadK, isAggD, Bool.false_eq_true, Tryd.underlying4, sz4, eq_self]
  refine hM _ _ ?_
  clear hM M
  refine pops_to rfl fun M hM => ?_
  simp only [pop, St.eval, upd_at, Nat.reduceEqDiff, if_true, if_false, unK]
  refine hM _ _ ?_
  clear hM M
  refine pops_mv (.inl rfl) rfl (by simp only [St.eval, upd_at, Nat.reduceEqDiff, if_true, if_false] <;> rfl) ?_
  apply pops_and0 3 22 25 [23, 24] (by simp only [upd_at, Nat.reduceEqDiff, if_true, if_false] <;> rfl)
  ·skip
   intro g22_0 J64 hJ64
   simp only [List.take_succ_cons, List.take_zero]
   simp only [anyAt_cons, anyAt_nil] at hJ64
   refine pops_mvg (.inl rfl) rfl rfl (by simp only [upd_at, Nat.reduceEqDiff, if_true, if_false, g22_0]) (by simp only [St.eval, upd_at, Nat.reduceEqDiff, if_true, if_false, g22_0] <;> rfl) ?_
   refine pops_do rfl rfl (by simp only [upd_at, Nat.reduceEqDiff, if_true, if_false, g22_0]) fun M hM => ?_
   simp only [pop, St.eval, constSlot, upd_at, Nat.reduceEqDiff, if_true, if_false, popBin, binK, intK, eq_self, true_and, g22_0]
   refine hM _ _ ?_
   clear hM M
   refine pops_to rfl fun M hM => ?_
   simp only [pop, St.eval, constSlot, upd_at, Nat.reduceEqDiff, if_true, if_false, true_implies, false_implies, Bool.true_eq_false, reduceCtorEq, and_true, g22_0]
   refine hM _ _ ?_
   clear hM M
   exact pops_done (hJ64 _ (wk_same (wk_any ((wk_any (Wk.refl _ _))))))
  ·skip
   intro g22_0 J64 hJ64
   simp only [List.take_succ_cons, List.take_zero]
   simp only [anyAt_cons, anyAt_nil] at hJ64
   refine pops_off (b := false) rfl rfl (by simp only [upd_at, Nat.reduceEqDiff, if_true, if_false, g22_0]) (by decide) ?_
   refine pops_off (b := false) rfl rfl (by simp only [upd_at, Nat.reduceEqDiff, if_true, if_false, g22_0]) (by decide) ?_
   refine pops_to rfl fun M hM => ?_
   simp only [pop, St.eval, constSlot, upd_at, Nat.reduceEqDiff, if_true, if_false, true_implies, false_implies, Bool.false_eq_true, reduceCtorEq, true_and, g22_0]
   refine hM _ _ ?_
   clear hM M
   exact pops_done (hJ64 _ (wk_same (wk_any ((wk_any (Wk.refl _ _))))))
  simp only [List.drop_succ_cons, List.drop_zero, anyAt_cons, anyAt_nil]
  refine pops_mv (.inl rfl) rfl (by simp only [St.eval, upd_at, Nat.reduceEqDiff, if_true, if_false] <;> rfl) ?_
  apply pops_and0 6 26 32 [27, 28, 29, 30, 31] (by simp only [upd_at, Nat.reduceEqDiff, if_true, if_false] <;> rfl)
  ·skip
   intro g26_0 J65 hJ65
   simp only [List.take_succ_cons, List.take_zero]
   simp only [anyAt_cons, anyAt_nil] at hJ65
   refine pops_mvg (.inl rfl) rfl rfl (by simp only [upd_at, Nat.reduceEqDiff, if_true, if_false, g26_0]) (by simp only [St.eval, upd_at, Nat.reduceEqDiff, if_true, if_false, g26_0] <;> rfl) ?_
   refine pops_mvg (.inl rfl) rfl rfl (by simp only [upd_at, Nat.reduceEqDiff, if_true, if_false, g26_0]) (by simp only [St.eval, upd_at, Nat.reduceEqDiff, if_true, if_false, g26_0] <;> rfl) ?_
   refine pops_do rfl rfl (by simp only [upd_at, Nat.reduceEqDiff, if_true, if_false, g26_0]) fun M hM => ?_
   simp only [pop, St.eval, constSlot, upd_at, Nat.reduceEqDiff, if_true, if_false, popBin, binK, intK, eq_self, true_and, g26_0, hw29]
   refine hM _ _ ?_
   clear hM M
   refine pops_do rfl rfl (by simp only [upd_at, Nat.reduceEqDiff, if_true, if_false, g26_0]) fun M hM => ?_
   simp only [pop, St.eval, upd_at, Nat.reduceEqDiff, if_true, if_false, popIndex, Tryd.underlying9, eq_self, str_get, g26_0, hd, Int.toNat_natCast]
   refine ⟨Int.natCast_nonneg _, hM _ _ ?_⟩
   clear hM M
   refine pops_do rfl rfl (by simp only [upd_at, Nat.reduceEqDiff, if_true, if_false, g26_0]) fun M hM => ?_
   simp only [pop, St.eval, constSlot, upd_at, Nat.reduceEqDiff, if_true, if_false, popBin, binK, intK, eq_self, true_and, g26_0, u8_47]
   refine hM _ _ ?_
   clear hM M
   refine pops_to rfl fun M hM => ?_
   simp only [pop, St.eval, constSlot, upd_at, Nat.reduceEqDiff, if_true, if_false, true_implies, false_implies, Bool.true_eq_false, reduceCtorEq, and_true, g26_0]
   refine hM _ _ ?_
   clear hM M
   exact pops_done (hJ65 _ (wk_same (wk_any ((wk_any ((wk_any ((wk_any ((wk_any (Wk.refl _ _))))))))))))
  ·skip
   intro g26_0 J65 hJ65
   simp only [List.take_succ_cons, List.take_zero]
   simp only [anyAt_cons, anyAt_nil] at hJ65
   refine pops_off (b := false) rfl rfl (by simp only [upd_at, Nat.reduceEqDiff, if_true, if_false, g26_0]) (by decide) ?_
   refine pops_off (b := false) rfl rfl (by simp only [upd_at, Nat.reduceEqDiff, if_true, if_false, g26_0]) (by decide) ?_
   refine pops_off (b := false) rfl rfl (by simp only [upd_at, Nat.reduceEqDiff, if_true, if_false, g26_0]) (by decide) ?_
   refine pops_off (b := false) rfl rfl (by simp only [upd_at, Nat.reduceEqDiff, if_true, if_false, g26_0]) (by decide) ?_
   refine pops_off (b := false) rfl rfl (by simp only [upd_at, Nat.reduceEqDiff, if_true, if_false, g26_0]) (by decide) ?_
   refine pops_to rfl fun M hM => ?_
   simp only [pop, St.eval, constSlot, upd_at, Nat.reduceEqDiff, if_true, if_false, true_implies, false_implies, Bool.false_eq_true, reduceCtorEq, true_and, g26_0]
   refine hM _ _ ?_
   clear hM M
   exact pops_done (hJ65 _ (wk_same (wk_any ((wk_any ((wk_any ((wk_any ((wk_any (Wk.refl _ _))))))))))))
  simp only [List.drop_succ_cons, List.drop_zero, anyAt_cons, anyAt_nil]
  refine pops_mv (.inl rfl) rfl (by simp only [St.eval, upd_at, Nat.reduceEqDiff, if_true, if_false] <;> rfl) ?_
  apply pops_and 4 33 37 [34, 35, 36] (by simp only [upd_at, Nat.reduceEqDiff, if_true, if_false] <;> rfl)
  ·skip
   intro g33_0 J66 hJ66
   simp only [List.take_succ_cons, List.take_zero]
   simp only [anyAt_cons, anyAt_nil] at hJ66
   refine pops_mvg (.inl rfl) rfl rfl (by simp only [upd_at, Nat.reduceEqDiff, if_true, if_false, g33_0]) (by simp only [St.eval, upd_at, Nat.reduceEqDiff, if_true, if_false, g33_0] <;> rfl) ?_
   refine pops_do rfl rfl (by simp only [upd_at, Nat.reduceEqDiff, if_true, if_false, g33_0]) fun M hM => ?_
   simp only [pop, St.eval, constSlot, upd_at, Nat.reduceEqDiff, if_true, if_false, popCall, List.map_nil, svs, List.mapM_cons, List.mapM_nil, Option.bind_eq_bind, Option.bind_some, Option.pure_def, List.append_nil, g33_0]
   refine PFun.use (quoted_fun W0 (globR1 ro l) hp1 (by omega)) fun h4 s4 => hM _ _ ?_
   replace s4 := Same.trans (Same.refl _) s4
   clear hM M
   refine pops_do rfl rfl (by simp only [upd_at, Nat.reduceEqDiff, if_true, if_false, g33_0]) fun M hM => ?_
   simp only [pop, St.eval, upd_at, Nat.reduceEqDiff, if_true, if_false, unK, g33_0]
   refine hM _ _ ?_
   clear hM M
   refine pops_to rfl fun M hM => ?_
   simp only [pop, St.eval, constSlot, upd_at, Nat.reduceEqDiff, if_true, if_false, true_implies, false_implies, Bool.true_eq_false, reduceCtorEq, and_true, g33_0]
   refine hM _ _ ?_
   clear hM M
   exact pops_done (hJ66 _ _ s4 (wk_same (wk_any ((wk_any ((wk_any (Wk.refl _ _))))))))
  ·skip
   intro g33_0 J66 hJ66
   simp only [List.take_succ_cons, List.take_zero]
   simp only [anyAt_cons, anyAt_nil] at hJ66
   refine pops_off (b := false) rfl rfl (by simp only [upd_at, Nat.reduceEqDiff, if_true, if_false, g33_0]) (by decide) ?_
   refine pops_off (b := false) rfl rfl (by simp only [upd_at, Nat.reduceEqDiff, if_true, if_false, g33_0]) (by decide) ?_
   refine pops_off (b := false) rfl rfl (by simp only [upd_at, Nat.reduceEqDiff, if_true, if_false, g33_0]) (by decide) ?_
   refine pops_to rfl fun M hM => ?_
   simp only [pop, St.eval, constSlot, upd_at, Nat.reduceEqDiff, if_true, if_false, true_implies, false_implies, Bool.false_eq_true, reduceCtorEq, true_and, g33_0]
   refine hM _ _ ?_
   clear hM M
   exact pops_done (hJ66 _ _ (Same.refl _) (wk_same (wk_any ((wk_any ((wk_any (Wk.refl _ _))))))))
  simp only [List.drop_succ_cons, List.drop_zero, anyAt_cons, anyAt_nil]
  intro hj66 sj66
  replace sj66 := Same.trans sj8 sj66
  refine pops_done (hR63 _ ?_)
  clear hR63 R63
  try simp only [thenK]
  refine hN62 _ ?_
  clear hN62 N62
  refine pwp_cond (by simp only [St.eval, upd_at, Nat.reduceEqDiff, if_true, if_false] <;> rfl) (fun c37 => ?_) (fun c37 => ?_)
  ·skip
   have hc2 : (!di && (((globR1 ro l).getLast? == some 47) && !quotB (globR1 ro l))) = true := by
     rw [hlast]
     simp only [Bool.and_eq_true] at c37 ⊢
     exact ⟨c37.1.1.1, c37.1.2, c37.2⟩
   have he2 : globR2 ro di l = (globR1 ro l).take ((globR1 ro l).length - 1) ++ [92, 47] := by rw [globR2, if_pos hc2]
   refine pwp_reg fun R67 hR67 => ?_
   refine pops_mv (.inl rfl) rfl (by simp only [St.eval, upd_at, Nat.reduceEqDiff, if_true, if_false] <;> rfl) ?_
   refine pops_mv (.inl rfl) rfl (by simp only [St.eval, upd_at, Nat.reduceEqDiff, if_true, if_false] <;> rfl) ?_
   refine pops_to rfl fun M hM => ?_
   simp only [pop, St.eval, constSlot, upd_at, Nat.reduceEqDiff, if_true, if_false, popBin, binK, intK, eq_self, true_and, hw29]
   refine hM _ _ ?_
   clear hM M
   refine pops_to rfl fun M hM => ?_
   simp only [pop, St.eval, upd_at, Nat.reduceEqDiff, if_true, if_false, popSlice, boundOf, Option.map_none, Option.map_some, Tryd.underlying9, eq_self, str_size, str_cut, Int.toNat_natCast, List.drop_zero]
   refine ⟨Int.le_refl _, Int.natCast_nonneg _, by omega, hM _ _ ?_⟩
   clear hM M
   refine pops_to rfl fun M hM => ?_
   simp only [pop, St.eval, constSlot, upd_at, Nat.reduceEqDiff, if_true, if_false, popBin, binK, strK, eq_self, str_size, str_app]
   refine ⟨by first | omega | (simp only [List.length_take, List.length_cons, List.length_nil]; omega), hM _ _ ?_⟩
   clear hM M
   refine pops_mv (.inr rfl) rfl (by simp only [St.eval, upd_at, Nat.reduceEqDiff, if_true, if_false] <;> rfl) ?_
   refine pops_done (hR67 _ ?_)
   clear hR67 R67
   try simp only [thenK]
   refine hN59 _ ?_
   clear hN59 N59
   refine pwp_then fun N68 hN68 => ?_
   refine pwp_then fun N69 hN69 => ?_
   refine pwp_reg fun R70 hR70 => ?_
   refine pops_to rfl fun M hM => ?_
   simp only [pop, St.eval, upd_at, Nat.reduceEqDiff, if_true, if_false, popFieldAddr, fieldOf, List.drop_zero, List.getElem?_toArray, List.getElem?_cons_zero, Tryd.underlying24, sz4]
   refine ⟨⟨_, rfl⟩, hM _ _ ?_⟩
   clear hM M
   refine pops_to rfl fun M hM => ?_
   simp only [pop, St.eval, upd_at, Nat.reduceEqDiff, if_true, if_false, popLoad, loadK, isAggD, Bool.false_eq_true, Tryd.underlying4, sz4, eq_self]
   refine hM _ _ ?_
   clear hM M
   refine pops_done (hR70 _ ?_)
   clear hR70 R70
   try simp only [thenK]
   refine hN69 _ ?_
   clear hN69 N69
   refine pwp_cond (by simp only [St.eval, upd_at, Nat.reduceEqDiff, if_true, if_false] <;> rfl) (fun c44 => ?_) (fun c44 => ?_)
   ·skip
    have he3 : globR3 ro di l = 47 :: globR2 ro di l := by rw [globR3, if_pos c44]
    refine pwp_reg fun R71 hR71 => ?_
    refine pops_mv (.inl rfl) rfl (by simp only [St.eval, upd_at, Nat.reduceEqDiff, if_true, if_false] <;> rfl) ?_
    refine pops_to rfl fun M hM => ?_
    simp only [pop, St.eval, constSlot, upd_at, Nat.reduceEqDiff, if_true, if_false, popBin, binK, strK, eq_self, str_size, str_app]
    refine ⟨by first | omega | (simp only [List.length_append, List.length_take, List.length_cons, List.length_nil]; omega), hM _ _ ?_⟩
    clear hM M
    refine pops_mv (.inr rfl) rfl (by simp only [St.eval, upd_at, Nat.reduceEqDiff, if_true, if_false] <;> rfl) ?_
    refine pops_done (hR71 _ ?_)
    clear hR71 R71
    try simp only [thenK]
    refine hN68 _ ?_
    clear hN68 N68
    refine pwp_then fun N72 hN72 => ?_
    refine pwp_then fun N73 hN73 => ?_
    refine pwp_reg fun R74 hR74 => ?_
    refine pops_to rfl fun M hM => ?_
    simp only [pop, St.eval, upd_at, Nat.reduceEqDiff, if_true, if_false, popFieldAddr, fieldOf, List.drop_succ_cons, List.drop_zero, List.getElem?_toArray, List.getElem?_cons_zero, List.getElem?_cons_succ, Tryd.underlying24, sz4]
    refine ⟨⟨_, rfl⟩, hM _ _ ?_⟩
    clear hM M
    refine pops_to rfl fun M hM => ?_
    simp only [pop, St.eval, upd_at, Nat.reduceEqDiff, if_true, if_false, popLoad, loadK, isAggD, Bool.false_eq_true, Tryd.underlying4, sz4, eq_self]
    refine hM _ _ ?_
    clear hM M
    refine pops_done (hR74 _ ?_)
    clear hR74 R74
    try simp only [thenK]
    refine hN73 _ ?_
    clear hN73 N73
    refine pwp_cond (by simp only [St.eval, upd_at, Nat.reduceEqDiff, if_true, if_false] <;> rfl) (fun c48 => ?_) (fun c48 => ?_)
    ·skip
     have he4 : globR ro di l = globR3 ro di l ++ [47] := by rw [globR_3, if_pos c48]
     refine pwp_reg fun R75 hR75 => ?_
     refine pops_mv (.inl rfl) rfl (by simp only [St.eval, upd_at, Nat.reduceEqDiff, if_true, if_false] <;> rfl) ?_
     refine pops_to rfl fun M hM => ?_
     simp only [pop, St.eval, constSlot, upd_at, Nat.reduceEqDiff, if_true, if_false, popBin, binK, strK, eq_self, str_size, str_app]
     refine ⟨by first | omega | (simp only [List.length_append, List.length_take, List.length_cons, List.length_nil]; omega), hM _ _ ?_⟩
     clear hM M
     refine pops_mv (.inr rfl) rfl (by simp only [St.eval, upd_at, Nat.reduceEqDiff, if_true, if_false] <;> rfl) ?_
     refine pops_done (hR75 _ ?_)
     clear hR75 R75
     try simp only [thenK]
     refine hN72 _ ?_
     clear hN72 N72
     refine pwp_then fun N76 hN76 => ?_
     refine pwp_reg fun R77 hR77 => ?_
     refine pops_mv (.inl rfl) rfl (by simp only [St.eval, upd_at, Nat.reduceEqDiff, if_true, if_false] <;> rfl) ?_
     refine pops_mv (.inr rfl) rfl (by simp only [St.eval, upd_at, Nat.reduceEqDiff, if_true, if_false] <;> rfl) ?_
     refine pops_done (hR77 _ ?_)
     clear hR77 R77
     try simp only [thenK]
     refine hN76 _ ?_
     clear hN76 N76
     refine pwp_ret ?_
     simp only [bodyK]
     refine ⟨_, rfl, endFun sj66 ?_⟩
     try simp only [upd_at, Nat.reduceEqDiff, if_true, if_false]
     all_goals
      first
        | (rw [he4, he3, he2]; done)
        | (rw [he4, he3, he2]; rfl)
    ·skip
     have he4 : globR ro di l = globR3 ro di l := by rw [globR_3, if_neg (by rw [c48]; decide)]
     refine pwp_skip ?_
     try simp only [thenK]
     refine hN72 _ ?_
     clear hN72 N72
     refine pwp_then fun N78 hN78 => ?_
     refine pwp_reg fun R79 hR79 => ?_
     refine pops_mv (.inl rfl) rfl (by simp only [St.eval, upd_at, Nat.reduceEqDiff, if_true, if_false] <;> rfl) ?_
     refine pops_mv (.inr rfl) rfl (by simp only [St.eval, upd_at, Nat.reduceEqDiff, if_true, if_false] <;> rfl) ?_
     refine pops_done (hR79 _ ?_)
     clear hR79 R79
     try simp only [thenK]
     refine hN78 _ ?_
     clear hN78 N78
     refine pwp_ret ?_
     simp only [bodyK]
     refine ⟨_, rfl, endFun sj66 ?_⟩
     try simp only [upd_at, Nat.reduceEqDiff, if_true, if_false]
     all_goals
      first
        | (rw [he4, he3, he2]; done)
        | (rw [he4, he3, he2]; rfl)
   ·skip
    have he3 : globR3 ro di l = globR2 ro di l := by rw [globR3, if_neg (by rw [c44]; decide)]
    refine pwp_skip ?_
    try simp only [thenK]
    refine hN68 _ ?_
    clear hN68 N68
    refine pwp_then fun N80 hN80 => ?_
    refine pwp_then fun N81 hN81 => ?_
    refine pwp_reg fun R82 hR82 => ?_
    refine pops_to rfl fun M hM => ?_
    simp only [pop, St.eval, upd_at, Nat.reduceEqDiff, if_true, if_false, popFieldAddr, fieldOf, List.drop_succ_cons, List.drop_zero, List.getElem?_toArray, List.getElem?_cons_zero, List.getElem?_cons_succ, Tryd.underlying24, sz4]
    refine ⟨⟨_, rfl⟩, hM _ _ ?_⟩
    clear hM M
    refine pops_to rfl fun M hM => ?_
    simp only [pop, St.eval, upd_at, Nat.reduceEqDiff, if_true, if_false, popLoad, loadK, isAggD, Bool.false_eq_true, Tryd.underlying4, sz4, eq_self]
    refine hM _ _ ?_
    clear hM M
    refine pops_done (hR82 _ ?_)
    clear hR82 R82
    try simp only [thenK]
    refine hN81 _ ?_
    clear hN81 N81
    refine pwp_cond (by simp only [St.eval, upd_at, Nat.reduceEqDiff, if_true, if_false] <;> rfl) (fun c48 => ?_) (fun c48 => ?_)
    ·skip
     have he4 : globR ro di l = globR3 ro di l ++ [47] := by rw [globR_3, if_pos c48]
     refine pwp_reg fun R83 hR83 => ?_
     refine pops_mv (.inl rfl) rfl (by simp only [St.eval, upd_at, Nat.reduceEqDiff, if_true, if_false] <;> rfl) ?_
     refine pops_to rfl fun M hM => ?_
     simp only [pop, St.eval, constSlot, upd_at, Nat.reduceEqDiff, if_true, if_false, popBin, binK, strK, eq_self, str_size, str_app]
     refine ⟨by first | omega | (simp only [List.length_append, List.length_take, List.length_cons, List.length_nil]; omega), hM _ _ ?_⟩
     clear hM M
     refine pops_mv (.inr rfl) rfl (by simp only [St.eval, upd_at, Nat.reduceEqDiff, if_true, if_false] <;> rfl) ?_
     refine pops_done (hR83 _ ?_)
     clear hR83 R83
     try simp only [thenK]
     refine hN80 _ ?_
     clear hN80 N80
     refine pwp_then fun N84 hN84 => ?_
     refine pwp_reg fun R85 hR85 => ?_
     refine pops_mv (.inl rfl) rfl (by simp only [St.eval, upd_at, Nat.reduceEqDiff, if_true, if_false] <;> rfl) ?_
     refine pops_mv (.inr rfl) rfl (by simp only [St.eval, upd_at, Nat.reduceEqDiff, if_true, if_false] <;> rfl) ?_
     refine pops_done (hR85 _ ?_)
     clear hR85 R85
     try simp only [thenK]
     refine hN84 _ ?_
     clear hN84 N84
     refine pwp_ret ?_
     simp only [bodyK]
     refine ⟨_, rfl, endFun sj66 ?_⟩
     try simp only [upd_at, Nat.reduceEqDiff, if_true, if_false]
     all_goals
      first
        | (rw [he4, he3, he2]; done)
        | (rw [he4, he3, he2]; rfl)
    ·skip
     have he4 : globR ro di l = globR3 ro di l := by rw [globR_3, if_neg (by rw [c48]; decide)]
     refine pwp_skip ?_
     try simp only [thenK]
     refine hN80 _ ?_
     clear hN80 N80
     refine pwp_then fun N86 hN86 => ?_
     refine pwp_reg fun R87 hR87 => ?_
     refine pops_mv (.inl rfl) rfl (by simp only [St.eval, upd_at, Nat.reduceEqDiff, if_true, if_false] <;> rfl) ?_
     refine pops_mv (.inr rfl) rfl (by simp only [St.eval, upd_at, Nat.reduceEqDiff, if_true, if_false] <;> rfl) ?_
     refine pops_done (hR87 _ ?_)
     clear hR87 R87
     try simp only [thenK]
     refine hN86 _ ?_
     clear hN86 N86
     refine pwp_ret ?_
     simp only [bodyK]
     refine ⟨_, rfl, endFun sj66 ?_⟩
     try simp only [upd_at, Nat.reduceEqDiff, if_true, if_false]
     all_goals
      first
        | (rw [he4, he3, he2]; done)
        | (rw [he4, he3, he2]; rfl)
  ·skip
   have hc2 : ¬ (!di && (((globR1 ro l).getLast? == some 47) && !quotB (globR1 ro l))) = true := by
     rw [hlast]
     intro h9
     simp only [Bool.and_eq_true] at h9
     rw [h9.1, h9.2.1, h9.2.2, decide_eq_true (by omega)] at c37
     exact absurd c37 (by decide)
   have he2 : globR2 ro di l = globR1 ro l := by rw [globR2, if_neg hc2]
   refine pwp_skip ?_
   try simp only [thenK]
   refine hN59 _ ?_
   clear hN59 N59
   refine pwp_then fun N88 hN88 => ?_
   refine pwp_then fun N89 hN89 => ?_
   refine pwp_reg fun R90 hR90 => ?_
   refine pops_to rfl fun M hM => ?_
   simp only [pop, St.eval, upd_at, Nat.reduceEqDiff, if_true, if_false, popFieldAddr, fieldOf, List.drop_zero, List.getElem?_toArray, List.getElem?_cons_zero, Tryd.underlying24, sz4]
   refine ⟨⟨_, rfl⟩, hM _ _ ?_⟩
   clear hM M
   refine pops_to rfl fun M hM => ?_
   simp only [pop, St.eval, upd_at, Nat.reduceEqDiff, if_true, if_false, popLoad, loadK, isAggD, Bool.false_eq_true, Tryd.underlying4, sz4, eq_self]
   refine hM _ _ ?_
   clear hM M
   refine pops_done (hR90 _ ?_)
   clear hR90 R90
   try simp only [thenK]
   refine hN89 _ ?_
   clear hN89 N89
   refine pwp_cond (by simp only [St.eval, upd_at, Nat.reduceEqDiff, if_true, if_false] <;> rfl) (fun c44 => ?_) (fun c44 => ?_)
   ·skip
    have he3 : globR3 ro di l = 47 :: globR2 ro di l := by rw [globR3, if_pos c44]
    refine pwp_reg fun R91 hR91 => ?_
    refine pops_mv (.inl rfl) rfl (by simp only [St.eval, upd_at, Nat.reduceEqDiff, if_true, if_false] <;> rfl) ?_
    refine pops_to rfl fun M hM => ?_
    simp only [pop, St.eval, constSlot, upd_at, Nat.reduceEqDiff, if_true, if_false, popBin, binK, strK, eq_self, str_size, str_app]
    refine ⟨by first | omega | (simp only [List.length_cons, List.length_nil]; omega), hM _ _ ?_⟩
    clear hM M
    refine pops_mv (.inr rfl) rfl (by simp only [St.eval, upd_at, Nat.reduceEqDiff, if_true, if_false] <;> rfl) ?_
    refine pops_done (hR91 _ ?_)
    clear hR91 R91
    try simp only [thenK]
    refine hN88 _ ?_
    clear hN88 N88
    refine pwp_then fun N92 hN92 => ?_
    refine pwp_then fun N93 hN93 => ?_
    refine pwp_reg fun R94 hR94 => ?_
    refine pops_to rfl fun M hM => ?_
    simp only [pop, St.eval, upd_at, Nat.reduceEqDiff, if_true, if_false, popFieldAddr, fieldOf, List.drop_succ_cons, List.drop_zero, List.getElem?_toArray, List.getElem?_cons_zero, List.getElem?_cons_succ, Tryd.underlying24, sz4]
    refine ⟨⟨_, rfl⟩, hM _ _ ?_⟩
    clear hM M
    refine pops_to rfl fun M hM => ?_
    simp only [pop, St.eval, upd_at, Nat.reduceEqDiff, if_true, if_false, popLoad, loadK, isAggD, Bool.false_eq_true, Tryd.underlying4, sz4, eq_self]
    refine hM _ _ ?_
    clear hM M
    refine pops_done (hR94 _ ?_)
    clear hR94 R94
    try simp only [thenK]
    refine hN93 _ ?_
    clear hN93 N93
    refine pwp_cond (by simp only [St.eval, upd_at, Nat.reduceEqDiff, if_true, if_false] <;> rfl) (fun c48 => ?_) (fun c48 => ?_)
    ·skip
     have he4 : globR ro di l = globR3 ro di l ++ [47] := by rw [globR_3, if_pos c48]
     refine pwp_reg fun R95 hR95 => ?_
     refine pops_mv (.inl rfl) rfl (by simp only [St.eval, upd_at, Nat.reduceEqDiff, if_true, if_false] <;> rfl) ?_
     refine pops_to rfl fun M hM => ?_
     simp only [pop, St.eval, constSlot, upd_at, Nat.reduceEqDiff, if_true, if_false, popBin, binK, strK, eq_self, str_size, str_app]
     refine ⟨by first | omega | (simp only [List.length_append, List.length_cons, List.length_nil]; omega), hM _ _ ?_⟩
     clear hM M
     refine pops_mv (.inr rfl) rfl (by simp only [St.eval, upd_at, Nat.reduceEqDiff, if_true, if_false] <;> rfl) ?_
     refine pops_done (hR95 _ ?_)
     clear hR95 R95
     try simp only [thenK]
     refine hN92 _ ?_
     clear hN92 N92
     refine pwp_then fun N96 hN96 => ?_
     refine pwp_reg fun R97 hR97 => ?_
     refine pops_mv (.inl rfl) rfl (by simp only [St.eval, upd_at, Nat.reduceEqDiff, if_true, if_false] <;> rfl) ?_
     refine pops_mv (.inr rfl) rfl (by simp only [St.eval, upd_at, Nat.reduceEqDiff, if_true, if_false] <;> rfl) ?_
     refine pops_done (hR97 _ ?_)
     clear hR97 R97
     try simp only [thenK]
     refine hN96 _ ?_
     clear hN96 N96
     refine pwp_ret ?_
     simp only [bodyK]
     refine ⟨_, rfl, endFun sj66 ?_⟩
     try simp only [upd_at, Nat.reduceEqDiff, if_true, if_false]
     all_goals
      first
        | (rw [he4, he3, he2]; done)
        | (rw [he4, he3, he2]; rfl)
    ·skip
     have he4 : globR ro di l = globR3 ro di l := by rw [globR_3, if_neg (by rw [c48]; decide)]
     refine pwp_skip ?_
     try simp only [thenK]
     refine hN92 _ ?_
     clear hN92 N92
     refine pwp_then fun N98 hN98 => ?_
     refine pwp_reg fun R99 hR99 => ?_
     refine pops_mv (.inl rfl) rfl (by simp only [St.eval, upd_at, Nat.reduceEqDiff, if_true, if_false] <;> rfl) ?_
     refine pops_mv (.inr rfl) rfl (by simp only [St.eval, upd_at, Nat.reduceEqDiff, if_true, if_false] <;> rfl) ?_
     refine pops_done (hR99 _ ?_)
     clear hR99 R99
     try simp only [thenK]
     refine hN98 _ ?_
     clear hN98 N98
     refine pwp_ret ?_
     simp only [bodyK]
     refine ⟨_, rfl, endFun sj66 ?_⟩
     try simp only [upd_at, Nat.reduceEqDiff, if_true, if_false]
     all_goals
      first
        | (rw [he4, he3, he2]; done)
        | (rw [he4, he3, he2]; rfl)
   ·skip
    have he3 : globR3 ro di l = globR2 ro di l := by rw [globR3, if_neg (by rw [c44]; decide)]
    refine pwp_skip ?_
    try simp only [thenK]
    refine hN88 _ ?_
    clear hN88 N88
    refine pwp_then fun N100 hN100 => ?_
    refine pwp_then fun N101 hN101 => ?_
    refine pwp_reg fun R102 hR102 => ?_
    refine pops_to rfl fun M hM => ?_
    simp only [pop, St.eval, upd_at, Nat.reduceEqDiff, if_true, if_false, popFieldAddr, fieldOf, List.drop_succ_cons, List.drop_zero, List.getElem?_toArray, List.getElem?_cons_zero, List.getElem?_cons_succ, Tryd.underlying24, sz4]
    refine ⟨⟨_, rfl⟩, hM _ _ ?_⟩
    clear hM M
    refine pops_to rfl fun M hM => ?_
    simp only [pop, St.eval, upd_at, Nat.reduceEqDiff, if_true, if_false, popLoad, loadK, isAggD, Bool.false_eq_true, Tryd.underlying4, sz4, eq_self]
    refine hM _ _ ?_
    clear hM M
    refine pops_done (hR102 _ ?_)
    clear hR102 R102
    try simp only [thenK]
    refine hN101 _ ?_
    clear hN101 N101
    refine pwp_cond (by simp only [St.eval, upd_at, Nat.reduceEqDiff, if_true, if_false] <;> rfl) (fun c48 => ?_) (fun c48 => ?_)
    ·skip
     have he4 : globR ro di l = globR3 ro di l ++ [47] := by rw [globR_3, if_pos c48]
     refine pwp_reg fun R103 hR103 => ?_
     refine pops_mv (.inl rfl) rfl (by simp only [St.eval, upd_at, Nat.reduceEqDiff, if_true, if_false] <;> rfl) ?_
     refine pops_to rfl fun M hM => ?_
     simp only [pop, St.eval, constSlot, upd_at, Nat.reduceEqDiff, if_true, if_false, popBin, binK, strK, eq_self, str_size, str_app]
     refine ⟨by first | omega | (simp only [List.length_cons, List.length_nil]; omega), hM _ _ ?_⟩
     clear hM M
     refine pops_mv (.inr rfl) rfl (by simp only [St.eval, upd_at, Nat.reduceEqDiff, if_true, if_false] <;> rfl) ?_
     refine pops_done (hR103 _ ?_)
     clear hR103 R103
     try simp only [thenK]
     refine hN100 _ ?_
     clear hN100 N100
     refine pwp_then fun N104 hN104 => ?_
     refine pwp_reg fun R105 hR105 => ?_
     refine pops_mv (.inl rfl) rfl (by simp only [St.eval, upd_at, Nat.reduceEqDiff, if_true, if_false] <;> rfl) ?_
     refine pops_mv (.inr rfl) rfl (by simp only [St.eval, upd_at, Nat.reduceEqDiff, if_true, if_false] <;> rfl) ?_
     refine pops_done (hR105 _ ?_)
     clear hR105 R105
     try simp only [thenK]
     refine hN104 _ ?_
     clear hN104 N104
     refine pwp_ret ?_
     simp only [bodyK]
     refine ⟨_, rfl, endFun sj66 ?_⟩
     try simp only [upd_at, Nat.reduceEqDiff, if_true, if_false]
     all_goals
      first
        | (rw [he4, he3, he2]; done)
        | (rw [he4, he3, he2]; rfl)
    ·skip
     have he4 : globR ro di l = globR3 ro di l := by rw [globR_3, if_neg (by rw [c48]; decide)]
     refine pwp_skip ?_
     try simp only [thenK]
     refine hN100 _ ?_
     clear hN100 N100
     refine pwp_then fun N106 hN106 => ?_
     refine pwp_reg fun R107 hR107 => ?_
     refine pops_mv (.inl rfl) rfl (by simp only [St.eval, upd_at, Nat.reduceEqDiff, if_true, if_false] <;> rfl) ?_
     refine pops_mv (.inr rfl) rfl (by simp only [St.eval, upd_at, Nat.reduceEqDiff, if_true, if_false] <;> rfl) ?_
     refine pops_done (hR107 _ ?_)
     clear hR107 R107
     try simp only [thenK]
     refine hN106 _ ?_
     clear hN106 N106
     refine pwp_ret ?_
     simp only [bodyK]
     refine ⟨_, rfl, endFun sj66 ?_⟩
     try simp only [upd_at, Nat.reduceEqDiff, if_true, if_false]
     all_goals
      first
        | (rw [he4, he3, he2]; done)
        | (rw [he4, he3, he2]; rfl)
end Go.Pw
