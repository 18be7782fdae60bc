/- Own work: part of the proof of the row YtlghclplgbijjaaDoorRowFilterChecksUpto; no condition of its own. -/
import Derived.Test.YtlghclplgbijjaaDoorGlobG
import Derived.Test.YtlghclplgbijjaaDoorGFacts
namespace Go.Pw
open Go Go.RowKit Go.Proofs
set_option maxRecDepth 100000
set_option linter.unusedSimpArgs false
set_option linter.unusedVariables false
theorem printParts_bld (W0 : World) (h0 : Hp) (id : Nat) (hb0 : hpOk h0) (l : List GPart) (hl : lW l ≤ 1048576) (b : Bool) (hc : chkL b l = 0) (w : Bool) (acc : List UInt8) (hacc : acc.length + 6 * lW l ≤ 1099511627776) (h : Hp) (B : Bld 94 5 h0 h id acc) :
    PCalls Tryd.prog W0 70 [.one (.ptr id 0 0 0), .one (.ro false 5 (encL l)), .one (pbool w)] h (fun r h' => r = .tup [] ∧ Bld 94 5 h0 h' id (acc ++ shL w l)) :=
  rec_parts (Q := fun l => lW l ≤ 1048576 → ∀ b, chkL b l = 0 → ∀ (w : Bool) (acc : List UInt8), acc.length + 6 * lW l ≤ 1099511627776 → ∀ h, Bld 94 5 h0 h id acc → PCalls Tryd.prog W0 70 [.one (.ptr id 0 0 0), .one (.ro false 5 (encL l)), .one (pbool w)] h (fun r h' => r = .tup [] ∧ Bld 94 5 h0 h' id (acc ++ shL w l)))
    (fun l ih hl b hc w acc hacc h B => printParts_bld1 W0 h0 id hb0 l hl b hc w acc hacc ih h B) l hl b hc w acc hacc h B
theorem hasPre : Has Tryd.prog 49 := ⟨_, Tryd.func49, rfl, by kernel_rfl⟩
theorem hasSuf : Has Tryd.prog 72 := ⟨_, Tryd.func72, rfl, by kernel_rfl⟩
theorem hasPrefix_fun (W0 : World) (s p : List UInt8) : PFun Tryd.prog W0 49 [.one (pstr s), .one (pstr p)] (.sv (.one (pbool (Lib.hasPrefix s p)))) :=
  pfun_same (P := Tryd.prog) (vals := [.string ⟨s.toArray⟩, .string ⟨p.toArray⟩]) hasPre rfl fun w _ => by
    have := Tryd.strings_HasPrefix ⟨s.toArray⟩ ⟨p.toArray⟩ w
    simpa using this
theorem hasSuffix_fun (W0 : World) (s p : List UInt8) (hs : s.length ≤ 9223372036854775807) : PFun Tryd.prog W0 72 [.one (pstr s), .one (pstr p)] (.sv (.one (pbool (Lib.hasSuffix s p)))) :=
  pfun_same (P := Tryd.prog) (vals := [.string ⟨s.toArray⟩, .string ⟨p.toArray⟩]) hasSuf rfl fun w _ => by
    have := Tryd.strings_HasSuffix ⟨s.toArray⟩ ⟨p.toArray⟩ w (by rw [str_size]; exact hs)
    simpa using this
theorem pre_head (s : List UInt8) : Lib.hasPrefix s [47] = (s.head? == some 47) := by
  unfold Lib.hasPrefix
  cases s with
  | nil => rfl
  | cons a t =>
    simp only [List.isPrefixOf, Bool.and_true, List.head?_cons]
    by_cases h : a = 47
    · subst h; rfl
    · have h2 : (47 == a) = false := by simpa using fun e : 47 = a => h e.symm
      have h3 : (some a == some (47 : UInt8)) = false := by simpa using h
      rw [h2, h3]
theorem suf_last (s : List UInt8) : Lib.hasSuffix s [47] = (s.getLast? == some 47) := by
  unfold Lib.hasSuffix List.isSuffixOf
  have e : s.getLast? = s.reverse.head? := by rw [List.head?_reverse]
  rw [e, ← pre_head]
  rfl
theorem ends_eq {l : List GPart} {g : GPart} (h : l[l.length - 1]? = some g) : endsB l = ((g.kind == 1) && Lib.hasSuffix g.text [47]) := by
  unfold endsB
  rw [List.getLast?_eq_getElem?, h, suf_last]
  rfl
theorem checkParts_fun (W0 : World) (l : List GPart) (hl : lW l ≤ 1048576) : PFun Tryd.prog W0 40 [.one (.ro false 5 (encL l))] (.sv (.one (pint (chkL false l)))) :=
  rec_parts (Q := fun l => lW l ≤ 1048576 → PFun Tryd.prog W0 40 [.one (.ro false 5 (encL l))] (.sv (.one (pint (chkL false l))))) (fun l ih hl => checkParts_fun1 W0 l hl ih) l hl
theorem starsMeet_fun (W0 : World) (l : List GPart) (hl : lW l ≤ 1048576) : PFun Tryd.prog W0 41 [.one (.ro false 5 (encL l))] (.sv (.one (pbool (stL false l)))) :=
  rec_parts (Q := fun l => lW l ≤ 1048576 → PFun Tryd.prog W0 41 [.one (.ro false 5 (encL l))] (.sv (.one (pbool (stL false l))))) (fun l ih hl => starsMeet_fun1 W0 l hl ih) l hl
theorem alloc94 {h : Hp} {N : Slot → Hp → Prop} (H : ∀ id, h.lim ≤ id → N (.sv (.one (.ptr id 0 0 0))) (h.new id (bldBlk 94 (.val (.pointer none)) (.val (.slice none 0 0))))) : popAlloc Tryd.prog 94 h N := by
  have hz : zeroOf Tryd.prog 94 = some (.agg #[.pointer none, .slice none 0 0]) := by kernel_rfl
  unfold popAlloc
  rw [hz]
  have e : constSlot (.agg #[.pointer none, .slice none 0 0]) = .sv (.agg [.val (.pointer none), .val (.slice none 0 0)]) := by
    unfold constSlot
    simp only []
    rw [if_pos (by rw [Array.all_eq_true_iff_forall_mem]; intro x hx; simp at hx; rcases hx with rfl | rfl <;> rfl)]
    rfl
  simp only []
  rw [e]
  unfold popBox
  simp only [slotCells, List.length_cons, List.length_nil]
  exact ⟨by omega, fun id hid => H id hid⟩
def globT1 (dirs : Bool) (l : List GPart) : List UInt8 := if !dirs && endsB l then (shL false l).take ((shL false l).length - 1) ++ [92, 47] else shL false l
def globT2 (rooted dirs : Bool) (l : List GPart) : List UInt8 := if !rooted && ((globT1 dirs l).head? == some 47) then 92 :: globT1 dirs l else globT1 dirs l
def globT3 (rooted dirs : Bool) (l : List GPart) : List UInt8 := if rooted then 47 :: globT2 rooted dirs l else globT2 rooted dirs l
theorem globT_3 (rooted dirs : Bool) (l : List GPart) : globT rooted dirs l = if dirs then globT3 rooted dirs l ++ [47] else globT3 rooted dirs l := rfl
theorem globT1_len (dirs : Bool) (l : List GPart) : (globT1 dirs l).length ≤ 6 * lW l + 2 := by
  have h := shL_len false l
  unfold globT1
  split
  · rw [List.length_append, List.length_take]
    simp only [List.length_cons, List.length_nil]
    omega
  · omega
theorem globT2_len (rooted dirs : Bool) (l : List GPart) : (globT2 rooted dirs l).length ≤ 6 * lW l + 3 := by
  have h := globT1_len dirs l
  unfold globT2
  split
  · simp only [List.length_cons]; omega
  · omega
theorem globT3_len (rooted dirs : Bool) (l : List GPart) : (globT3 rooted dirs l).length ≤ 6 * lW l + 4 := by
  have h := globT2_len rooted dirs l
  unfold globT3
  split
  · simp only [List.length_cons]; omega
  · omega
theorem nm42 : (Tryd.f42.name == "runtime.NumGoroutine") = false := by kernel_rfl
set_option maxHeartbeats 2000000 in
theorem globText_fun (W0 : World) (ro di : Bool) (l : List GPart) (hl : lW l ≤ 1048576) (hc : chkL false l = 0) (h0 : l ≠ []) :
  PFun Tryd.prog W0 42 [.agg [pbool ro, pbool di, .ro false 5 (encL l)]] (.sv (.one (pstr (globT ro di l)))) := by
 intro h
 have hln := lW_len l
 have hlp : 0 < l.length := List.length_pos_iff.2 h0
 have hsh := shL_len false l
 have hg1 := globT1_len di l
 have hg2 := globT2_len ro di l
 have hg3 := globT3_len ro di l
 obtain ⟨g, hg⟩ : ∃ g, l[l.length - 1]? = some g := ⟨_, List.getElem?_eq_getElem (by omega)⟩
 have hget := encL_at hg
 rw [encG_eq] at hget
 have hwl15 : IntKind.i64.wrap ((l.length : Int) - 1) = ((l.length - 1 : Nat) : Int) := wrapp (by omega) (by omega)
 have hgt := lW_at hg
 have hgq := gW_eq g
 have hend := ends_eq hg
 refine pcalls1 (n := 55) Tryd.func42 rfl nm42 rfl fun hb => ?_
 refine pwp_then fun N1 hN1 => ?_
 refine pwp_reg fun R2 hR2 => ?_
 refine pops_to rfl fun M hM => ?_
 simp only [pop, St.eval, upd_at, if_true, popBox, popBoxRo, slotCells]
 refine .inr ⟨Nat.succ_pos _, hM _ _ ?_⟩
 clear hM M
 refine pops_mv (.inr rfl) rfl (by simp only [St.eval, constSlot] <;> rfl) ?_
 refine pops_done (hR2 _ ?_)
 clear hR2 R2
 try simp only [thenK]
 refine hN1 _ ?_
 clear hN1 N1
 refine pwp_then fun N3 hN3 => ?_
 refine pwp_reg fun R4 hR4 => ?_
 refine pops_to rfl fun M hM => ?_
 simp only [pop]
 refine alloc94 fun id hid => hM _ _ ?_
 have hB0 : Bld 94 5 h _ id [] := Bld.fresh (tb := 94) (t8 := 5) (Same.keeps (Same.refl _)) hid
 clear hM M
 refine pops_done (hR4 _ ?_)
 clear hR4 R4
 try simp only [thenK]
 refine hN3 _ ?_
 clear hN3 N3
 refine pwp_then fun N5 hN5 => ?_
 refine pwp_reg fun R6 hR6 => ?_
 refine pops_to rfl fun M hM => ?_
 simp only [pop, St.eval, upd_at, Nat.reduceEqDiff, if_true, if_false, popFieldAddr, fieldOf, List.drop_succ_cons, List.drop_zero, List.getElem?_toArray, List.getElem?_cons_zero, List.getElem?_cons_succ, Tryd.underlying24, sz22]
 refine ⟨⟨_, rfl⟩, hM _ _ ?_⟩
 clear hM M
 refine pops_to rfl fun M hM => ?_
 simp only [pop, St.eval, upd_at, Nat.reduceEqDiff, if_true, if_false, popLoad, loadK, isAggD, Bool.false_eq_true, Tryd.underlying22, sz22, eq_self]
 refine hM _ _ ?_
 clear hM M
 refine pops_to rfl fun M hM => ?_
 simp only [pop, St.eval, constSlot, upd_at, Nat.reduceEqDiff, if_true, if_false, popCall, List.map_nil, svs, List.mapM_cons, List.mapM_nil, Option.bind_eq_bind, Option.bind_some, Option.pure_def, List.append_nil]
 refine (printParts_bld W0 h id hb l hl false hc false [] (by simp only [List.length_nil]; omega) _ hB0).mono ?_
 rintro _ h9 ⟨rfl, hB9⟩
 rw [List.nil_append] at hB9
 refine hM _ _ ?_
 clear hM M
 refine pops_done (hR6 _ ?_)
 clear hR6 R6
 try simp only [thenK]
 refine hN5 _ ?_
 clear hN5 N5
 refine pwp_then fun N7 hN7 => ?_
 refine pwp_reg fun R8 hR8 => ?_
 refine pops_to rfl fun M hM => ?_
 simp only [pop, St.eval, constSlot, upd_at, Nat.reduceEqDiff, if_true, if_false, popCall, List.map_nil, svs, List.mapM_cons, List.mapM_nil, Option.bind_eq_bind, Option.bind_some, Option.pure_def, List.append_nil]
 refine (string_bld W0 hb (hB9.keeps (Same.keeps (Same.refl _)))).mono ?_
 rintro _ h8 ⟨rfl, s8⟩
 refine hM _ _ ?_
 clear hM M
 refine pops_mv (.inr rfl) rfl (by simp only [St.eval, upd_at, Nat.reduceEqDiff, if_true, if_false] <;> rfl) ?_
 refine pops_done (hR8 _ ?_)
 clear hR8 R8
 try simp only [thenK]
 refine hN7 _ ?_
 clear hN7 N7
 refine pwp_then fun N9 hN9 => ?_
 refine pwp_reg fun R10 hR10 => ?_
 refine pops_to rfl fun M hM => ?_
 simp only [pop, St.eval, upd_at, Nat.reduceEqDiff, if_true, if_false, popFieldAddr, fieldOf, List.drop_succ_cons, List.drop_zero, List.getElem?_toArray, List.getElem?_cons_zero, List.getElem?_cons_succ, Tryd.underlying24, sz22]
 refine ⟨⟨_, rfl⟩, hM _ _ ?_⟩
 clear hM M
 refine pops_to rfl fun M hM => ?_
 simp only [pop, St.eval, upd_at, Nat.reduceEqDiff, if_true, if_false, popLoad, loadK, isAggD, Bool.false_eq_true, Tryd.underlying22, sz22, eq_self]
 refine hM _ _ ?_
 clear hM M
 refine pops_to rfl fun M hM => ?_
 simp only [pop, St.eval, upd_at, Nat.reduceEqDiff, if_true, if_false, popFieldAddr, fieldOf, List.drop_succ_cons, List.drop_zero, List.getElem?_toArray, List.getElem?_cons_zero, List.getElem?_cons_succ, Tryd.underlying24, sz22]
 refine ⟨⟨_, rfl⟩, hM _ _ ?_⟩
 clear hM M
 refine pops_to rfl fun M hM => ?_
 simp only [pop, St.eval, upd_at, Nat.reduceEqDiff, if_true, if_false, popLoad, loadK, isAggD, Bool.false_eq_true, Tryd.underlying22, sz22, eq_self]
 refine hM _ _ ?_
 clear hM M
 refine pops_to rfl fun M hM => ?_
 simp only [pop, St.eval, upd_at, Nat.reduceEqDiff, if_true, if_false, popCall, List.map_cons, List.map_nil, popBuiltin, popLen, lenOfSlot, Tryd.underlying22, eq_self, encL_len]
 refine hM _ _ ?_
 clear hM M
 refine pops_to rfl fun M hM => ?_
 simp only [pop, St.eval, constSlot, upd_at, Nat.reduceEqDiff, if_true, if_false, popBin, binK, intK, eq_self, true_and, hwl15]
 refine hM _ _ ?_
 clear hM M
 refine pops_to rfl fun M hM => ?_
 simp only [pop, St.eval, upd_at, Nat.reduceEqDiff, if_true, if_false, popIndexAddr, Tryd.underlying22, sz64, eq_self, true_and, hget, Int.toNat_natCast]
 refine ⟨Int.natCast_nonneg _, hM _ _ ?_⟩
 clear hM M
 refine pops_to rfl fun M hM => ?_
 simp only [pop, St.eval, upd_at, Nat.reduceEqDiff, if_true, if_false, List.length_cons, List.length_nil, Nat.zero_add, Nat.reduceAdd, Nat.reduceLeDiff, List.take_succ_cons, List.take_nil, popLoad, loadK, isAggD, Tryd.underlying64, sz64, eq_self, true_and]
 refine hM _ _ ?_
 clear hM M
 refine pops_var (hpOk.same hb s8) rfl ze64 (zs := [PV.val (.int .i64 0), PV.val (.string ⟨#[]⟩), PV.val (.bool false), PV.val (.slice none 0 0), PV.val (.slice none 0 0)]) (by kernel_rfl) (by simp) (by simp only [St.eval, slotCells, upd_at, Nat.reduceEqDiff, if_true, if_false] <;> rfl) (by rfl) (by exact Nat.succ_pos _) (by rw [sz64]; rfl) (fun hv11 sv11 => ?_)
 replace sv11 := Same.trans s8 sv11
 refine pops_done (hR10 _ ?_)
 clear hR10 R10
 try simp only [thenK]
 refine hN9 _ ?_
 clear hN9 N9
 refine pwp_then fun N12 hN12 => ?_
 refine pwp_then fun N13 hN13 => ?_
 refine pwp_reg fun R14 hR14 => ?_
 refine pops_to rfl fun M hM => ?_
 simp only [pop, St.eval, upd_at, Nat.reduceEqDiff, if_true, if_false, popFieldAddr, fieldOf, List.drop_succ_cons, List.drop_zero, List.getElem?_toArray, List.getElem?_cons_zero, List.getElem?_cons_succ, Tryd.underlying24, sz4]
 refine ⟨⟨_, rfl⟩, hM _ _ ?_⟩
 clear hM M
 refine pops_to rfl fun M hM => ?_
 simp only [pop, St.eval, upd_at, Nat.reduceEqDiff, if_true, if_false, popLoad, loadK, isAggD, Bool.false_eq_true, Tryd.underlying4, sz4, eq_self]
 refine hM _ _ ?_
 clear hM M
 refine pops_to rfl fun M hM => ?_
 simp only [pop, St.eval, upd_at, Nat.reduceEqDiff, if_true, if_false, unK]
 refine hM _ _ ?_
 clear hM M
 refine pops_mv (.inl rfl) rfl (by simp only [St.eval, upd_at, Nat.reduceEqDiff, if_true, if_false] <;> rfl) ?_
 apply pops_and0 4 21 25 [22, 23, 24] (by simp only [upd_at, Nat.reduceEqDiff, if_true, if_false] <;> rfl)
 ·skip
  intro g21_0 J15 hJ15
  simp only [List.take_succ_cons, List.take_zero]
  simp only [anyAt_cons, anyAt_nil] at hJ15
  refine pops_do rfl rfl (by simp only [upd_at, Nat.reduceEqDiff, if_true, if_false, g21_0]) fun M hM => ?_
  simp only [pop, St.eval, upd_at, Nat.reduceEqDiff, if_true, if_false, popFieldAddr, fieldOf, List.drop_zero, List.getElem?_toArray, List.getElem?_cons_zero, Tryd.underlying64, sz3, g21_0]
  refine ⟨⟨_, rfl⟩, hM _ _ ?_⟩
  clear hM M
  refine pops_do rfl rfl (by simp only [upd_at, Nat.reduceEqDiff, if_true, if_false, g21_0]) fun M hM => ?_
  simp only [pop, St.eval, upd_at, Nat.reduceEqDiff, if_true, if_false, popLoad, loadK, isAggD, Bool.false_eq_true, Tryd.underlying3, sz3, eq_self, g21_0]
  refine hM _ _ ?_
  clear hM M
  refine pops_do rfl rfl (by simp only [upd_at, Nat.reduceEqDiff, if_true, if_false, g21_0]) fun M hM => ?_
  simp only [pop, St.eval, constSlot, upd_at, Nat.reduceEqDiff, if_true, if_false, popBin, binK, intK, eq_self, true_and, g21_0]
  refine hM _ _ ?_
  clear hM M
  refine pops_to rfl fun M hM => ?_
  simp only [pop, St.eval, constSlot, upd_at, Nat.reduceEqDiff, if_true, if_false, true_implies, false_implies, Bool.true_eq_false, reduceCtorEq, and_true, g21_0]
  refine hM _ _ ?_
  clear hM M
  exact pops_done (hJ15 _ (wk_same (wk_any ((wk_any ((wk_any (Wk.refl _ _))))))))
 ·skip
  intro g21_0 J15 hJ15
  simp only [List.take_succ_cons, List.take_zero]
  simp only [anyAt_cons, anyAt_nil] at hJ15
  refine pops_off (b := false) rfl rfl (by simp only [upd_at, Nat.reduceEqDiff, if_true, if_false, g21_0]) (by decide) ?_
  refine pops_off (b := false) rfl rfl (by simp only [upd_at, Nat.reduceEqDiff, if_true, if_false, g21_0]) (by decide) ?_
  refine pops_off (b := false) rfl rfl (by simp only [upd_at, Nat.reduceEqDiff, if_true, if_false, g21_0]) (by decide) ?_
  refine pops_to rfl fun M hM => ?_
  simp only [pop, St.eval, constSlot, upd_at, Nat.reduceEqDiff, if_true, if_false, true_implies, false_implies, Bool.false_eq_true, reduceCtorEq, true_and, g21_0]
  refine hM _ _ ?_
  clear hM M
  exact pops_done (hJ15 _ (wk_same (wk_any ((wk_any ((wk_any (Wk.refl _ _))))))))
 simp only [List.drop_succ_cons, List.drop_zero, anyAt_cons, anyAt_nil]
 refine pops_mv (.inl rfl) rfl (by simp only [St.eval, upd_at, Nat.reduceEqDiff, if_true, if_false] <;> rfl) ?_
 apply pops_and 4 26 30 [27, 28, 29] (by simp only [upd_at, Nat.reduceEqDiff, if_true, if_false] <;> rfl)
 ·skip
  intro g26_0 J16 hJ16
  simp only [List.take_succ_cons, List.take_zero]
  simp only [anyAt_cons, anyAt_nil] at hJ16
  refine pops_do rfl rfl (by simp only [upd_at, Nat.reduceEqDiff, if_true, if_false, g26_0]) fun M hM => ?_
  simp only [pop, St.eval, upd_at, Nat.reduceEqDiff, if_true, if_false, popFieldAddr, fieldOf, List.drop_succ_cons, List.drop_zero, List.getElem?_toArray, List.getElem?_cons_zero, List.getElem?_cons_succ, Tryd.underlying64, sz9, g26_0]
  refine ⟨⟨_, rfl⟩, hM _ _ ?_⟩
  clear hM M
  refine pops_do rfl rfl (by simp only [upd_at, Nat.reduceEqDiff, if_true, if_false, g26_0]) fun M hM => ?_
  simp only [pop, St.eval, upd_at, Nat.reduceEqDiff, if_true, if_false, popLoad, loadK, isAggD, Bool.false_eq_true, Tryd.underlying9, sz9, eq_self, g26_0]
  refine hM _ _ ?_
  clear hM M
  refine pops_do rfl rfl (by simp only [upd_at, Nat.reduceEqDiff, if_true, if_false, g26_0]) fun M hM => ?_
  simp only [pop, St.eval, constSlot, upd_at, Nat.reduceEqDiff, if_true, if_false, popCall, List.map_nil, svs, List.mapM_cons, List.mapM_nil, Option.bind_eq_bind, Option.bind_some, Option.pure_def, List.append_nil, g26_0]
  refine PFun.use (hasSuffix_fun W0 g.text [47] (by omega)) fun h1 s1 => hM _ _ ?_
  replace s1 := Same.trans (Same.refl _) s1
  clear hM M
  refine pops_to rfl fun M hM => ?_
  simp only [pop, St.eval, constSlot, upd_at, Nat.reduceEqDiff, if_true, if_false, true_implies, false_implies, Bool.true_eq_false, reduceCtorEq, and_true, g26_0]
  refine hM _ _ ?_
  clear hM M
  exact pops_done (hJ16 _ _ s1 (wk_same (wk_any ((wk_any ((wk_any (Wk.refl _ _))))))))
 ·skip
  intro g26_0 J16 hJ16
  simp only [List.take_succ_cons, List.take_zero]
  simp only [anyAt_cons, anyAt_nil] at hJ16
  refine pops_off (b := false) rfl rfl (by simp only [upd_at, Nat.reduceEqDiff, if_true, if_false, g26_0]) (by decide) ?_
  refine pops_off (b := false) rfl rfl (by simp only [upd_at, Nat.reduceEqDiff, if_true, if_false, g26_0]) (by decide) ?_
  refine pops_off (b := false) rfl rfl (by simp only [upd_at, Nat.reduceEqDiff, if_true, if_false, g26_0]) (by decide) ?_
  refine pops_to rfl fun M hM => ?_
  simp only [pop, St.eval, constSlot, upd_at, Nat.reduceEqDiff, if_true, if_false, true_implies, false_implies, Bool.false_eq_true, reduceCtorEq, true_and, g26_0]
  refine hM _ _ ?_
  clear hM M
  exact pops_done (hJ16 _ _ (Same.refl _) (wk_same (wk_any ((wk_any ((wk_any (Wk.refl _ _))))))))
 simp only [List.drop_succ_cons, List.drop_zero, anyAt_cons, anyAt_nil]
 intro hj16 sj16
 replace sj16 := Same.trans sv11 sj16
 refine pops_done (hR14 _ ?_)
 clear hR14 R14
 try simp only [thenK]
 refine hN13 _ ?_
 clear hN13 N13
 refine pwp_cond (by simp only [St.eval, upd_at, Nat.reduceEqDiff, if_true, if_false] <;> rfl) (fun c30 => ?_) (fun c30 => ?_)
 ·skip
  have hc1 : (!di && endsB l) = true := by rw [hend, ← Bool.and_assoc]; exact c30
  have he1 : globT1 di l = (shL false l).take ((shL false l).length - 1) ++ [92, 47] := by rw [globT1, if_pos hc1]
  have hpos : 0 < (shL false l).length := by
    have hq : endsB l = true := by simp only [Bool.and_eq_true] at hc1; exact hc1.2
    obtain ⟨s, es, _⟩ := ends_yes (chk_kinds hc) hq
    rw [es, List.length_append]; simp
  have hw34 : IntKind.i64.wrap (((shL false l).length : Int) - 1) = (((shL false l).length - 1 : Nat) : Int) := by rw [wrap_i64 (by omega) (by omega)]; omega
  refine pwp_reg fun R17 hR17 => ?_
  refine pops_mv (.inl rfl) rfl (by simp only [St.eval, upd_at, Nat.reduceEqDiff, if_true, if_false] <;> rfl) ?_
  refine pops_mv (.inl rfl) rfl (by simp only [St.eval, upd_at, Nat.reduceEqDiff, if_true, if_false] <;> rfl) ?_
  refine pops_to rfl fun M hM => ?_
  simp only [pop, St.eval, upd_at, Nat.reduceEqDiff, if_true, if_false, popCall, List.map_cons, List.map_nil, popBuiltin, popLen, Tryd.underlying9, eq_self, str_size]
  refine hM _ _ ?_
  clear hM M
  refine pops_to rfl fun M hM => ?_
  simp only [pop, St.eval, constSlot, upd_at, Nat.reduceEqDiff, if_true, if_false, popBin, binK, intK, eq_self, true_and, hw34]
  refine hM _ _ ?_
  clear hM M
  refine pops_to rfl fun M hM => ?_
  simp only [pop, St.eval, upd_at, Nat.reduceEqDiff, if_true, if_false, popSlice, boundOf, Option.map_none, Option.map_some, Tryd.underlying9, eq_self, str_size, str_cut, Int.toNat_natCast, List.drop_zero]
  refine ⟨Int.le_refl _, Int.natCast_nonneg _, by omega, hM _ _ ?_⟩
  clear hM M
  refine pops_to rfl fun M hM => ?_
  simp only [pop, St.eval, constSlot, upd_at, Nat.reduceEqDiff, if_true, if_false, popBin, binK, strK, eq_self, str_size, str_app]
  refine ⟨by simp only [List.length_take, List.length_cons, List.length_nil]; omega, hM _ _ ?_⟩
  clear hM M
  refine pops_mv (.inr rfl) rfl (by simp only [St.eval, upd_at, Nat.reduceEqDiff, if_true, if_false] <;> rfl) ?_
  refine pops_done (hR17 _ ?_)
  clear hR17 R17
  try simp only [thenK]
  refine hN12 _ ?_
  clear hN12 N12
  refine pwp_then fun N18 hN18 => ?_
  refine pwp_then fun N19 hN19 => ?_
  refine pwp_reg fun R20 hR20 => ?_
  refine pops_to rfl fun M hM => ?_
  simp only [pop, St.eval, upd_at, Nat.reduceEqDiff, if_true, if_false, popFieldAddr, fieldOf, List.drop_zero, List.getElem?_toArray, List.getElem?_cons_zero, Tryd.underlying24, sz4]
  refine ⟨⟨_, rfl⟩, hM _ _ ?_⟩
  clear hM M
  refine pops_to rfl fun M hM => ?_
  simp only [pop, St.eval, upd_at, Nat.reduceEqDiff, if_true, if_false, popLoad, loadK, isAggD, Bool.false_eq_true, Tryd.underlying4, sz4, eq_self]
  refine hM _ _ ?_
  clear hM M
  refine pops_to rfl fun M hM => ?_
  simp only [pop, St.eval, upd_at, Nat.reduceEqDiff, if_true, if_false, unK]
  refine hM _ _ ?_
  clear hM M
  refine pops_mv (.inl rfl) rfl (by simp only [St.eval, upd_at, Nat.reduceEqDiff, if_true, if_false] <;> rfl) ?_
  apply pops_and 3 40 43 [41, 42] (by simp only [upd_at, Nat.reduceEqDiff, if_true, if_false] <;> rfl)
  ·skip
   intro g40_0 J21 hJ21
   simp only [List.take_succ_cons, List.take_zero]
   simp only [anyAt_cons, anyAt_nil] at hJ21
   refine pops_mvg (.inl rfl) rfl rfl (by simp only [upd_at, Nat.reduceEqDiff, if_true, if_false, g40_0]) (by simp only [St.eval, upd_at, Nat.reduceEqDiff, if_true, if_false, g40_0] <;> rfl) ?_
   refine pops_do rfl rfl (by simp only [upd_at, Nat.reduceEqDiff, if_true, if_false, g40_0]) fun M hM => ?_
   simp only [pop, St.eval, constSlot, upd_at, Nat.reduceEqDiff, if_true, if_false, popCall, List.map_nil, svs, List.mapM_cons, List.mapM_nil, Option.bind_eq_bind, Option.bind_some, Option.pure_def, List.append_nil, g40_0]
   refine PFun.use (by have e9 := hasPrefix_fun W0 (globT1 di l) [47]; rw [he1] at e9; exact e9) fun h2 s2 => hM _ _ ?_
   replace s2 := Same.trans (Same.refl _) s2
   clear hM M
   refine pops_to rfl fun M hM => ?_
   simp only [pop, St.eval, constSlot, upd_at, Nat.reduceEqDiff, if_true, if_false, true_implies, false_implies, Bool.true_eq_false, reduceCtorEq, and_true, g40_0]
   refine hM _ _ ?_
   clear hM M
   exact pops_done (hJ21 _ _ s2 (wk_same (wk_any ((wk_any (Wk.refl _ _))))))
  ·skip
   intro g40_0 J21 hJ21
   simp only [List.take_succ_cons, List.take_zero]
   simp only [anyAt_cons, anyAt_nil] at hJ21
   refine pops_off (b := false) rfl rfl (by simp only [upd_at, Nat.reduceEqDiff, if_true, if_false, g40_0]) (by decide) ?_
   refine pops_off (b := false) rfl rfl (by simp only [upd_at, Nat.reduceEqDiff, if_true, if_false, g40_0]) (by decide) ?_
   refine pops_to rfl fun M hM => ?_
   simp only [pop, St.eval, constSlot, upd_at, Nat.reduceEqDiff, if_true, if_false, true_implies, false_implies, Bool.false_eq_true, reduceCtorEq, true_and, g40_0]
   refine hM _ _ ?_
   clear hM M
   exact pops_done (hJ21 _ _ (Same.refl _) (wk_same (wk_any ((wk_any (Wk.refl _ _))))))
  simp only [List.drop_succ_cons, List.drop_zero, anyAt_cons, anyAt_nil]
  intro hj21 sj21
  replace sj21 := Same.trans sj16 sj21
  refine pops_done (hR20 _ ?_)
  clear hR20 R20
  try simp only [thenK]
  refine hN19 _ ?_
  clear hN19 N19
  refine pwp_cond (by simp only [St.eval, upd_at, Nat.reduceEqDiff, if_true, if_false] <;> rfl) (fun c43 => ?_) (fun c43 => ?_)
  ·skip
   have hc2 : (!ro && ((globT1 di l).head? == some 47)) = true := by rw [← pre_head, he1]; exact c43
   have he2 : globT2 ro di l = 92 :: globT1 di l := by rw [globT2, if_pos hc2]
   refine pwp_reg fun R22 hR22 => ?_
   refine pops_mv (.inl rfl) rfl (by simp only [St.eval, upd_at, Nat.reduceEqDiff, if_true, if_false] <;> rfl) ?_
   refine pops_to rfl fun M hM => ?_
   simp only [pop, St.eval, constSlot, upd_at, Nat.reduceEqDiff, if_true, if_false, popBin, binK, strK, eq_self, str_size, str_app]
   refine ⟨by first | omega | (simp only [List.length_append, List.length_take, List.length_cons, List.length_nil]; omega), hM _ _ ?_⟩
   clear hM M
   refine pops_mv (.inr rfl) rfl (by simp only [St.eval, upd_at, Nat.reduceEqDiff, if_true, if_false] <;> rfl) ?_
   refine pops_done (hR22 _ ?_)
   clear hR22 R22
   try simp only [thenK]
   refine hN18 _ ?_
   clear hN18 N18
   refine pwp_then fun N23 hN23 => ?_
   refine pwp_then fun N24 hN24 => ?_
   refine pwp_reg fun R25 hR25 => ?_
   refine pops_to rfl fun M hM => ?_
   simp only [pop, St.eval, upd_at, Nat.reduceEqDiff, if_true, if_false, popFieldAddr, fieldOf, List.drop_zero, List.getElem?_toArray, List.getElem?_cons_zero, Tryd.underlying24, sz4]
   refine ⟨⟨_, rfl⟩, hM _ _ ?_⟩
   clear hM M
   refine pops_to rfl fun M hM => ?_
   simp only [pop, St.eval, upd_at, Nat.reduceEqDiff, if_true, if_false, popLoad, loadK, isAggD, Bool.false_eq_true, Tryd.underlying4, sz4, eq_self]
   refine hM _ _ ?_
   clear hM M
   refine pops_done (hR25 _ ?_)
   clear hR25 R25
   try simp only [thenK]
   refine hN24 _ ?_
   clear hN24 N24
   refine pwp_cond (by simp only [St.eval, upd_at, Nat.reduceEqDiff, if_true, if_false] <;> rfl) (fun c47 => ?_) (fun c47 => ?_)
   ·skip
    have he3 : globT3 ro di l = 47 :: globT2 ro di l := by rw [globT3, if_pos c47]
    refine pwp_reg fun R26 hR26 => ?_
    refine pops_mv (.inl rfl) rfl (by simp only [St.eval, upd_at, Nat.reduceEqDiff, if_true, if_false] <;> rfl) ?_
    refine pops_to rfl fun M hM => ?_
    simp only [pop, St.eval, constSlot, upd_at, Nat.reduceEqDiff, if_true, if_false, popBin, binK, strK, eq_self, str_size, str_app]
    refine ⟨by first | omega | (simp only [List.length_append, List.length_take, List.length_cons, List.length_nil]; omega), hM _ _ ?_⟩
    clear hM M
    refine pops_mv (.inr rfl) rfl (by simp only [St.eval, upd_at, Nat.reduceEqDiff, if_true, if_false] <;> rfl) ?_
    refine pops_done (hR26 _ ?_)
    clear hR26 R26
    try simp only [thenK]
    refine hN23 _ ?_
    clear hN23 N23
    refine pwp_then fun N27 hN27 => ?_
    refine pwp_then fun N28 hN28 => ?_
    refine pwp_reg fun R29 hR29 => ?_
    refine pops_to rfl fun M hM => ?_
    simp only [pop, St.eval, upd_at, Nat.reduceEqDiff, if_true, if_false, popFieldAddr, fieldOf, List.drop_succ_cons, List.drop_zero, List.getElem?_toArray, List.getElem?_cons_zero, List.getElem?_cons_succ, Tryd.underlying24, sz4]
    refine ⟨⟨_, rfl⟩, hM _ _ ?_⟩
    clear hM M
    refine pops_to rfl fun M hM => ?_
    simp only [pop, St.eval, upd_at, Nat.reduceEqDiff, if_true, if_false, popLoad, loadK, isAggD, Bool.false_eq_true, Tryd.underlying4, sz4, eq_self]
    refine hM _ _ ?_
    clear hM M
    refine pops_done (hR29 _ ?_)
    clear hR29 R29
    try simp only [thenK]
    refine hN28 _ ?_
    clear hN28 N28
    refine pwp_cond (by simp only [St.eval, upd_at, Nat.reduceEqDiff, if_true, if_false] <;> rfl) (fun c51 => ?_) (fun c51 => ?_)
    ·skip
     have he4 : globT ro di l = globT3 ro di l ++ [47] := by rw [globT_3, if_pos c51]
     refine pwp_reg fun R30 hR30 => ?_
     refine pops_mv (.inl rfl) rfl (by simp only [St.eval, upd_at, Nat.reduceEqDiff, if_true, if_false] <;> rfl) ?_
     refine pops_to rfl fun M hM => ?_
     simp only [pop, St.eval, constSlot, upd_at, Nat.reduceEqDiff, if_true, if_false, popBin, binK, strK, eq_self, str_size, str_app]
     refine ⟨by first | omega | (simp only [List.length_append, List.length_take, List.length_cons, List.length_nil]; omega), hM _ _ ?_⟩
     clear hM M
     refine pops_mv (.inr rfl) rfl (by simp only [St.eval, upd_at, Nat.reduceEqDiff, if_true, if_false] <;> rfl) ?_
     refine pops_done (hR30 _ ?_)
     clear hR30 R30
     try simp only [thenK]
     refine hN27 _ ?_
     clear hN27 N27
     refine pwp_then fun N31 hN31 => ?_
     refine pwp_reg fun R32 hR32 => ?_
     refine pops_mv (.inl rfl) rfl (by simp only [St.eval, upd_at, Nat.reduceEqDiff, if_true, if_false] <;> rfl) ?_
     refine pops_mv (.inr rfl) rfl (by simp only [St.eval, upd_at, Nat.reduceEqDiff, if_true, if_false] <;> rfl) ?_
     refine pops_done (hR32 _ ?_)
     clear hR32 R32
     try simp only [thenK]
     refine hN31 _ ?_
     clear hN31 N31
     refine pwp_ret ?_
     simp only [bodyK]
     refine ⟨_, rfl, endFun sj21 ?_⟩
     try simp only [upd_at, Nat.reduceEqDiff, if_true, if_false]
     all_goals
      first
        | (rw [he4, he3, he2, he1]; done)
        | (rw [he4, he3, he2, he1]; rfl)
    ·skip
     have he4 : globT ro di l = globT3 ro di l := by rw [globT_3, if_neg (by rw [c51]; decide)]
     refine pwp_skip ?_
     try simp only [thenK]
     refine hN27 _ ?_
     clear hN27 N27
     refine pwp_then fun N33 hN33 => ?_
     refine pwp_reg fun R34 hR34 => ?_
     refine pops_mv (.inl rfl) rfl (by simp only [St.eval, upd_at, Nat.reduceEqDiff, if_true, if_false] <;> rfl) ?_
     refine pops_mv (.inr rfl) rfl (by simp only [St.eval, upd_at, Nat.reduceEqDiff, if_true, if_false] <;> rfl) ?_
     refine pops_done (hR34 _ ?_)
     clear hR34 R34
     try simp only [thenK]
     refine hN33 _ ?_
     clear hN33 N33
     refine pwp_ret ?_
     simp only [bodyK]
     refine ⟨_, rfl, endFun sj21 ?_⟩
     try simp only [upd_at, Nat.reduceEqDiff, if_true, if_false]
     all_goals
      first
        | (rw [he4, he3, he2, he1]; done)
        | (rw [he4, he3, he2, he1]; rfl)
   ·skip
    have he3 : globT3 ro di l = globT2 ro di l := by rw [globT3, if_neg (by rw [c47]; decide)]
    refine pwp_skip ?_
    try simp only [thenK]
    refine hN23 _ ?_
    clear hN23 N23
    refine pwp_then fun N35 hN35 => ?_
    refine pwp_then fun N36 hN36 => ?_
    refine pwp_reg fun R37 hR37 => ?_
    refine pops_to rfl fun M hM => ?_
    simp only [pop, St.eval, upd_at, Nat.reduceEqDiff, if_true, if_false, popFieldAddr, fieldOf, List.drop_succ_cons, List.drop_zero, List.getElem?_toArray, List.getElem?_cons_zero, List.getElem?_cons_succ, Tryd.underlying24, sz4]
    refine ⟨⟨_, rfl⟩, hM _ _ ?_⟩
    clear hM M
    refine pops_to rfl fun M hM => ?_
    simp only [pop, St.eval, upd_at, Nat.reduceEqDiff, if_true, if_false, popLoad, loadK, isAggD, Bool.false_eq_true, Tryd.underlying4, sz4, eq_self]
    refine hM _ _ ?_
    clear hM M
    refine pops_done (hR37 _ ?_)
    clear hR37 R37
    try simp only [thenK]
    refine hN36 _ ?_
    clear hN36 N36
    refine pwp_cond (by simp only [St.eval, upd_at, Nat.reduceEqDiff, if_true, if_false] <;> rfl) (fun c51 => ?_) (fun c51 => ?_)
    ·skip
     have he4 : globT ro di l = globT3 ro di l ++ [47] := by rw [globT_3, if_pos c51]
     refine pwp_reg fun R38 hR38 => ?_
     refine pops_mv (.inl rfl) rfl (by simp only [St.eval, upd_at, Nat.reduceEqDiff, if_true, if_false] <;> rfl) ?_
     refine pops_to rfl fun M hM => ?_
     simp only [pop, St.eval, constSlot, upd_at, Nat.reduceEqDiff, if_true, if_false, popBin, binK, strK, eq_self, str_size, str_app]
     refine ⟨by first | omega | (simp only [List.length_append, List.length_take, List.length_cons, List.length_nil]; omega), hM _ _ ?_⟩
     clear hM M
     refine pops_mv (.inr rfl) rfl (by simp only [St.eval, upd_at, Nat.reduceEqDiff, if_true, if_false] <;> rfl) ?_
     refine pops_done (hR38 _ ?_)
     clear hR38 R38
     try simp only [thenK]
     refine hN35 _ ?_
     clear hN35 N35
     refine pwp_then fun N39 hN39 => ?_
     refine pwp_reg fun R40 hR40 => ?_
     refine pops_mv (.inl rfl) rfl (by simp only [St.eval, upd_at, Nat.reduceEqDiff, if_true, if_false] <;> rfl) ?_
     refine pops_mv (.inr rfl) rfl (by simp only [St.eval, upd_at, Nat.reduceEqDiff, if_true, if_false] <;> rfl) ?_
     refine pops_done (hR40 _ ?_)
     clear hR40 R40
     try simp only [thenK]
     refine hN39 _ ?_
     clear hN39 N39
     refine pwp_ret ?_
     simp only [bodyK]
     refine ⟨_, rfl, endFun sj21 ?_⟩
     try simp only [upd_at, Nat.reduceEqDiff, if_true, if_false]
     all_goals
      first
        | (rw [he4, he3, he2, he1]; done)
        | (rw [he4, he3, he2, he1]; rfl)
    ·skip
     have he4 : globT ro di l = globT3 ro di l := by rw [globT_3, if_neg (by rw [c51]; decide)]
     refine pwp_skip ?_
     try simp only [thenK]
     refine hN35 _ ?_
     clear hN35 N35
     refine pwp_then fun N41 hN41 => ?_
     refine pwp_reg fun R42 hR42 => ?_
     refine pops_mv (.inl rfl) rfl (by simp only [St.eval, upd_at, Nat.reduceEqDiff, if_true, if_false] <;> rfl) ?_
     refine pops_mv (.inr rfl) rfl (by simp only [St.eval, upd_at, Nat.reduceEqDiff, if_true, if_false] <;> rfl) ?_
     refine pops_done (hR42 _ ?_)
     clear hR42 R42
     try simp only [thenK]
     refine hN41 _ ?_
     clear hN41 N41
     refine pwp_ret ?_
     simp only [bodyK]
     refine ⟨_, rfl, endFun sj21 ?_⟩
     try simp only [upd_at, Nat.reduceEqDiff, if_true, if_false]
     all_goals
      first
        | (rw [he4, he3, he2, he1]; done)
        | (rw [he4, he3, he2, he1]; rfl)
  ·skip
   have hc2 : ¬ (!ro && ((globT1 di l).head? == some 47)) = true := by rw [← pre_head, he1, c43]; decide
   have he2 : globT2 ro di l = globT1 di l := by rw [globT2, if_neg hc2]
   refine pwp_skip ?_
   try simp only [thenK]
   refine hN18 _ ?_
   clear hN18 N18
   refine pwp_then fun N43 hN43 => ?_
   refine pwp_then fun N44 hN44 => ?_
   refine pwp_reg fun R45 hR45 => ?_
   refine pops_to rfl fun M hM => ?_
   simp only [pop, St.eval, upd_at, Nat.reduceEqDiff, if_true, if_false, popFieldAddr, fieldOf, List.drop_zero, List.getElem?_toArray, List.getElem?_cons_zero, Tryd.underlying24, sz4]
   refine ⟨⟨_, rfl⟩, hM _ _ ?_⟩
   clear hM M
   refine pops_to rfl fun M hM => ?_
   simp only [pop, St.eval, upd_at, Nat.reduceEqDiff, if_true, if_false, popLoad, loadK, isAggD, Bool.false_eq_true, Tryd.underlying4, sz4, eq_self]
   refine hM _ _ ?_
   clear hM M
   refine pops_done (hR45 _ ?_)
   clear hR45 R45
   try simp only [thenK]
   refine hN44 _ ?_
   clear hN44 N44
   refine pwp_cond (by simp only [St.eval, upd_at, Nat.reduceEqDiff, if_true, if_false] <;> rfl) (fun c47 => ?_) (fun c47 => ?_)
   ·skip
    have he3 : globT3 ro di l = 47 :: globT2 ro di l := by rw [globT3, if_pos c47]
    refine pwp_reg fun R46 hR46 => ?_
    refine pops_mv (.inl rfl) rfl (by simp only [St.eval, upd_at, Nat.reduceEqDiff, if_true, if_false] <;> rfl) ?_
    refine pops_to rfl fun M hM => ?_
    simp only [pop, St.eval, constSlot, upd_at, Nat.reduceEqDiff, if_true, if_false, popBin, binK, strK, eq_self, str_size, str_app]
    refine ⟨by first | omega | (simp only [List.length_append, List.length_take, List.length_cons, List.length_nil]; omega), hM _ _ ?_⟩
    clear hM M
    refine pops_mv (.inr rfl) rfl (by simp only [St.eval, upd_at, Nat.reduceEqDiff, if_true, if_false] <;> rfl) ?_
    refine pops_done (hR46 _ ?_)
    clear hR46 R46
    try simp only [thenK]
    refine hN43 _ ?_
    clear hN43 N43
    refine pwp_then fun N47 hN47 => ?_
    refine pwp_then fun N48 hN48 => ?_
    refine pwp_reg fun R49 hR49 => ?_
    refine pops_to rfl fun M hM => ?_
    simp only [pop, St.eval, upd_at, Nat.reduceEqDiff, if_true, if_false, popFieldAddr, fieldOf, List.drop_succ_cons, List.drop_zero, List.getElem?_toArray, List.getElem?_cons_zero, List.getElem?_cons_succ, Tryd.underlying24, sz4]
    refine ⟨⟨_, rfl⟩, hM _ _ ?_⟩
    clear hM M
    refine pops_to rfl fun M hM => ?_
    simp only [pop, St.eval, upd_at, Nat.reduceEqDiff, if_true, if_false, popLoad, loadK, isAggD, Bool.false_eq_true, Tryd.underlying4, sz4, eq_self]
    refine hM _ _ ?_
    clear hM M
    refine pops_done (hR49 _ ?_)
    clear hR49 R49
    try simp only [thenK]
    refine hN48 _ ?_
    clear hN48 N48
    refine pwp_cond (by simp only [St.eval, upd_at, Nat.reduceEqDiff, if_true, if_false] <;> rfl) (fun c51 => ?_) (fun c51 => ?_)
    ·skip
     have he4 : globT ro di l = globT3 ro di l ++ [47] := by rw [globT_3, if_pos c51]
     refine pwp_reg fun R50 hR50 => ?_
     refine pops_mv (.inl rfl) rfl (by simp only [St.eval, upd_at, Nat.reduceEqDiff, if_true, if_false] <;> rfl) ?_
     refine pops_to rfl fun M hM => ?_
     simp only [pop, St.eval, constSlot, upd_at, Nat.reduceEqDiff, if_true, if_false, popBin, binK, strK, eq_self, str_size, str_app]
     refine ⟨by first | omega | (simp only [List.length_append, List.length_take, List.length_cons, List.length_nil]; omega), hM _ _ ?_⟩
     clear hM M
     refine pops_mv (.inr rfl) rfl (by simp only [St.eval, upd_at, Nat.reduceEqDiff, if_true, if_false] <;> rfl) ?_
     refine pops_done (hR50 _ ?_)
     clear hR50 R50
     try simp only [thenK]
     refine hN47 _ ?_
     clear hN47 N47
     refine pwp_then fun N51 hN51 => ?_
     refine pwp_reg fun R52 hR52 => ?_
     refine pops_mv (.inl rfl) rfl (by simp only [St.eval, upd_at, Nat.reduceEqDiff, if_true, if_false] <;> rfl) ?_
     refine pops_mv (.inr rfl) rfl (by simp only [St.eval, upd_at, Nat.reduceEqDiff, if_true, if_false] <;> rfl) ?_
     refine pops_done (hR52 _ ?_)
     clear hR52 R52
     try simp only [thenK]
     refine hN51 _ ?_
     clear hN51 N51
     refine pwp_ret ?_
     simp only [bodyK]
     refine ⟨_, rfl, endFun sj21 ?_⟩
     try simp only [upd_at, Nat.reduceEqDiff, if_true, if_false]
     all_goals
      first
        | (rw [he4, he3, he2, he1]; done)
        | (rw [he4, he3, he2, he1]; rfl)
    ·skip
     have he4 : globT ro di l = globT3 ro di l := by rw [globT_3, if_neg (by rw [c51]; decide)]
     refine pwp_skip ?_
     try simp only [thenK]
     refine hN47 _ ?_
     clear hN47 N47
     refine pwp_then fun N53 hN53 => ?_
     refine pwp_reg fun R54 hR54 => ?_
     refine pops_mv (.inl rfl) rfl (by simp only [St.eval, upd_at, Nat.reduceEqDiff, if_true, if_false] <;> rfl) ?_
     refine pops_mv (.inr rfl) rfl (by simp only [St.eval, upd_at, Nat.reduceEqDiff, if_true, if_false] <;> rfl) ?_
     refine pops_done (hR54 _ ?_)
     clear hR54 R54
     try simp only [thenK]
     refine hN53 _ ?_
     clear hN53 N53
     refine pwp_ret ?_
     simp only [bodyK]
     refine ⟨_, rfl, endFun sj21 ?_⟩
     try simp only [upd_at, Nat.reduceEqDiff, if_true, if_false]
     all_goals
      first
        | (rw [he4, he3, he2, he1]; done)
        | (rw [he4, he3, he2, he1]; rfl)
   ·skip
    have he3 : globT3 ro di l = globT2 ro di l := by rw [globT3, if_neg (by rw [c47]; decide)]
    refine pwp_skip ?_
    try simp only [thenK]
    refine hN43 _ ?_
    clear hN43 N43
    refine pwp_then fun N55 hN55 => ?_
    refine pwp_then fun N56 hN56 => ?_
    refine pwp_reg fun R57 hR57 => ?_
    refine pops_to rfl fun M hM => ?_
    simp only [pop, St.eval, upd_at, Nat.reduceEqDiff, if_true, if_false, popFieldAddr, fieldOf, List.drop_succ_cons, List.drop_zero, List.getElem?_toArray, List.getElem?_cons_zero, List.getElem?_cons_succ, Tryd.underlying24, sz4]
    refine ⟨⟨_, rfl⟩, hM _ _ ?_⟩
    clear hM M
    refine pops_to rfl fun M hM => ?_
    simp only [pop, St.eval, upd_at, Nat.reduceEqDiff, if_true, if_false, popLoad, loadK, isAggD, Bool.false_eq_true, Tryd.underlying4, sz4, eq_self]
    refine hM _ _ ?_
    clear hM M
    refine pops_done (hR57 _ ?_)
    clear hR57 R57
    try simp only [thenK]
    refine hN56 _ ?_
    clear hN56 N56
    refine pwp_cond (by simp only [St.eval, upd_at, Nat.reduceEqDiff, if_true, if_false] <;> rfl) (fun c51 => ?_) (fun c51 => ?_)
    ·skip
     have he4 : globT ro di l = globT3 ro di l ++ [47] := by rw [globT_3, if_pos c51]
     refine pwp_reg fun R58 hR58 => ?_
     refine pops_mv (.inl rfl) rfl (by simp only [St.eval, upd_at, Nat.reduceEqDiff, if_true, if_false] <;> rfl) ?_
     refine pops_to rfl fun M hM => ?_
     simp only [pop, St.eval, constSlot, upd_at, Nat.reduceEqDiff, if_true, if_false, popBin, binK, strK, eq_self, str_size, str_app]
     refine ⟨by first | omega | (simp only [List.length_append, List.length_take, List.length_cons, List.length_nil]; omega), hM _ _ ?_⟩
     clear hM M
     refine pops_mv (.inr rfl) rfl (by simp only [St.eval, upd_at, Nat.reduceEqDiff, if_true, if_false] <;> rfl) ?_
     refine pops_done (hR58 _ ?_)
     clear hR58 R58
     try simp only [thenK]
     refine hN55 _ ?_
     clear hN55 N55
     refine pwp_then fun N59 hN59 => ?_
     refine pwp_reg fun R60 hR60 => ?_
     refine pops_mv (.inl rfl) rfl (by simp only [St.eval, upd_at, Nat.reduceEqDiff, if_true, if_false] <;> rfl) ?_
     refine pops_mv (.inr rfl) rfl (by simp only [St.eval, upd_at, Nat.reduceEqDiff, if_true, if_false] <;> rfl) ?_
     refine pops_done (hR60 _ ?_)
     clear hR60 R60
     try simp only [thenK]
     refine hN59 _ ?_
     clear hN59 N59
     refine pwp_ret ?_
     simp only [bodyK]
     refine ⟨_, rfl, endFun sj21 ?_⟩
     try simp only [upd_at, Nat.reduceEqDiff, if_true, if_false]
     all_goals
      first
        | (rw [he4, he3, he2, he1]; done)
        | (rw [he4, he3, he2, he1]; rfl)
    ·skip
     have he4 : globT ro di l = globT3 ro di l := by rw [globT_3, if_neg (by rw [c51]; decide)]
     refine pwp_skip ?_
     try simp only [thenK]
     refine hN55 _ ?_
     clear hN55 N55
     refine pwp_then fun N61 hN61 => ?_
     refine pwp_reg fun R62 hR62 => ?_
     refine pops_mv (.inl rfl) rfl (by simp only [St.eval, upd_at, Nat.reduceEqDiff, if_true, if_false] <;> rfl) ?_
     refine pops_mv (.inr rfl) rfl (by simp only [St.eval, upd_at, Nat.reduceEqDiff, if_true, if_false] <;> rfl) ?_
     refine pops_done (hR62 _ ?_)
     clear hR62 R62
     try simp only [thenK]
     refine hN61 _ ?_
     clear hN61 N61
     refine pwp_ret ?_
     simp only [bodyK]
     refine ⟨_, rfl, endFun sj21 ?_⟩
     try simp only [upd_at, Nat.reduceEqDiff, if_true, if_false]
     all_goals
      first
        | (rw [he4, he3, he2, he1]; done)
        | (rw [he4, he3, he2, he1]; rfl)
 ·skip
  have hc1 : ¬ (!di && endsB l) = true := by rw [hend, ← Bool.and_assoc]; rw [c30]; decide
  have he1 : globT1 di l = shL false l := by rw [globT1, if_neg hc1]
  refine pwp_skip ?_
  try simp only [thenK]
  refine hN12 _ ?_
  clear hN12 N12
  refine pwp_then fun N63 hN63 => ?_
  refine pwp_then fun N64 hN64 => ?_
  refine pwp_reg fun R65 hR65 => ?_
  refine pops_to rfl fun M hM => ?_
  simp only [pop, St.eval, upd_at, Nat.reduceEqDiff, if_true, if_false, popFieldAddr, fieldOf, List.drop_zero, List.getElem?_toArray, List.getElem?_cons_zero, Tryd.underlying24, sz4]
  refine ⟨⟨_, rfl⟩, hM _ _ ?_⟩
  clear hM M
  refine pops_to rfl fun M hM => ?_
  simp only [pop, St.eval, upd_at, Nat.reduceEqDiff, if_true, if_false, popLoad, loadK, isAggD, Bool.false_eq_true, Tryd.underlying4, sz4, eq_self]
  refine hM _ _ ?_
  clear hM M
  refine pops_to rfl fun M hM => ?_
  simp only [pop, St.eval, upd_at, Nat.reduceEqDiff, if_true, if_false, unK]
  refine hM _ _ ?_
  clear hM M
  refine pops_mv (.inl rfl) rfl (by simp only [St.eval, upd_at, Nat.reduceEqDiff, if_true, if_false] <;> rfl) ?_
  apply pops_and 3 40 43 [41, 42] (by simp only [upd_at, Nat.reduceEqDiff, if_true, if_false] <;> rfl)
  ·skip
   intro g40_0 J66 hJ66
   simp only [List.take_succ_cons, List.take_zero]
   simp only [anyAt_cons, anyAt_nil] at hJ66
   refine pops_mvg (.inl rfl) rfl rfl (by simp only [upd_at, Nat.reduceEqDiff, if_true, if_false, g40_0]) (by simp only [St.eval, upd_at, Nat.reduceEqDiff, if_true, if_false, g40_0] <;> rfl) ?_
   refine pops_do rfl rfl (by simp only [upd_at, Nat.reduceEqDiff, if_true, if_false, g40_0]) fun M hM => ?_
   simp only [pop, St.eval, constSlot, upd_at, Nat.reduceEqDiff, if_true, if_false, popCall, List.map_nil, svs, List.mapM_cons, List.mapM_nil, Option.bind_eq_bind, Option.bind_some, Option.pure_def, List.append_nil, g40_0]
   refine PFun.use (by have e9 := hasPrefix_fun W0 (globT1 di l) [47]; rw [he1] at e9; exact e9) fun h3 s3 => hM _ _ ?_
   replace s3 := Same.trans (Same.refl _) s3
   clear hM M
   refine pops_to rfl fun M hM => ?_
   simp only [pop, St.eval, constSlot, upd_at, Nat.reduceEqDiff, if_true, if_false, true_implies, false_implies, Bool.true_eq_false, reduceCtorEq, and_true, g40_0]
   refine hM _ _ ?_
   clear hM M
   exact pops_done (hJ66 _ _ s3 (wk_same (wk_any ((wk_any (Wk.refl _ _))))))
  ·skip
   intro g40_0 J66 hJ66
   simp only [List.take_succ_cons, List.take_zero]
   simp only [anyAt_cons, anyAt_nil] at hJ66
   refine pops_off (b := false) rfl rfl (by simp only [upd_at, Nat.reduceEqDiff, if_true, if_false, g40_0]) (by decide) ?_
   refine pops_off (b := false) rfl rfl (by simp only [upd_at, Nat.reduceEqDiff, if_true, if_false, g40_0]) (by decide) ?_
   refine pops_to rfl fun M hM => ?_
   simp only [pop, St.eval, constSlot, upd_at, Nat.reduceEqDiff, if_true, if_false, true_implies, false_implies, Bool.false_eq_true, reduceCtorEq, true_and, g40_0]
   refine hM _ _ ?_
   clear hM M
   exact pops_done (hJ66 _ _ (Same.refl _) (wk_same (wk_any ((wk_any (Wk.refl _ _))))))
  simp only [List.drop_succ_cons, List.drop_zero, anyAt_cons, anyAt_nil]
  intro hj66 sj66
  replace sj66 := Same.trans sj16 sj66
  refine pops_done (hR65 _ ?_)
  clear hR65 R65
  try simp only [thenK]
  refine hN64 _ ?_
  clear hN64 N64
  refine pwp_cond (by simp only [St.eval, upd_at, Nat.reduceEqDiff, if_true, if_false] <;> rfl) (fun c43 => ?_) (fun c43 => ?_)
  ·skip
   have hc2 : (!ro && ((globT1 di l).head? == some 47)) = true := by rw [← pre_head, he1]; exact c43
   have he2 : globT2 ro di l = 92 :: globT1 di l := by rw [globT2, if_pos hc2]
   refine pwp_reg fun R67 hR67 => ?_
   refine pops_mv (.inl rfl) rfl (by simp only [St.eval, upd_at, Nat.reduceEqDiff, if_true, if_false] <;> rfl) ?_
   refine pops_to rfl fun M hM => ?_
   simp only [pop, St.eval, constSlot, upd_at, Nat.reduceEqDiff, if_true, if_false, popBin, binK, strK, eq_self, str_size, str_app]
   refine ⟨by first | omega | (simp only [List.length_cons, List.length_nil]; omega), hM _ _ ?_⟩
   clear hM M
   refine pops_mv (.inr rfl) rfl (by simp only [St.eval, upd_at, Nat.reduceEqDiff, if_true, if_false] <;> rfl) ?_
   refine pops_done (hR67 _ ?_)
   clear hR67 R67
   try simp only [thenK]
   refine hN63 _ ?_
   clear hN63 N63
   refine pwp_then fun N68 hN68 => ?_
   refine pwp_then fun N69 hN69 => ?_
   refine pwp_reg fun R70 hR70 => ?_
   refine pops_to rfl fun M hM => ?_
   simp only [pop, St.eval, upd_at, Nat.reduceEqDiff, if_true, if_false, popFieldAddr, fieldOf, List.drop_zero, List.getElem?_toArray, List.getElem?_cons_zero, Tryd.underlying24, sz4]
   refine ⟨⟨_, rfl⟩, hM _ _ ?_⟩
   clear hM M
   refine pops_to rfl fun M hM => ?_
   simp only [pop, St.eval, upd_at, Nat.reduceEqDiff, if_true, if_false, popLoad, loadK, isAggD, Bool.false_eq_true, Tryd.underlying4, sz4, eq_self]
   refine hM _ _ ?_
   clear hM M
   refine pops_done (hR70 _ ?_)
   clear hR70 R70
   try simp only [thenK]
   refine hN69 _ ?_
   clear hN69 N69
   refine pwp_cond (by simp only [St.eval, upd_at, Nat.reduceEqDiff, if_true, if_false] <;> rfl) (fun c47 => ?_) (fun c47 => ?_)
   ·skip
    have he3 : globT3 ro di l = 47 :: globT2 ro di l := by rw [globT3, if_pos c47]
    refine pwp_reg fun R71 hR71 => ?_
    refine pops_mv (.inl rfl) rfl (by simp only [St.eval, upd_at, Nat.reduceEqDiff, if_true, if_false] <;> rfl) ?_
    refine pops_to rfl fun M hM => ?_
    simp only [pop, St.eval, constSlot, upd_at, Nat.reduceEqDiff, if_true, if_false, popBin, binK, strK, eq_self, str_size, str_app]
    refine ⟨by first | omega | (simp only [List.length_append, List.length_cons, List.length_nil]; omega), hM _ _ ?_⟩
    clear hM M
    refine pops_mv (.inr rfl) rfl (by simp only [St.eval, upd_at, Nat.reduceEqDiff, if_true, if_false] <;> rfl) ?_
    refine pops_done (hR71 _ ?_)
    clear hR71 R71
    try simp only [thenK]
    refine hN68 _ ?_
    clear hN68 N68
    refine pwp_then fun N72 hN72 => ?_
    refine pwp_then fun N73 hN73 => ?_
    refine pwp_reg fun R74 hR74 => ?_
    refine pops_to rfl fun M hM => ?_
    simp only [pop, St.eval, upd_at, Nat.reduceEqDiff, if_true, if_false, popFieldAddr, fieldOf, List.drop_succ_cons, List.drop_zero, List.getElem?_toArray, List.getElem?_cons_zero, List.getElem?_cons_succ, Tryd.underlying24, sz4]
    refine ⟨⟨_, rfl⟩, hM _ _ ?_⟩
    clear hM M
    refine pops_to rfl fun M hM => ?_
    simp only [pop, St.eval, upd_at, Nat.reduceEqDiff, if_true, if_false, popLoad, loadK, isAggD, Bool.false_eq_true, Tryd.underlying4, sz4, eq_self]
    refine hM _ _ ?_
    clear hM M
    refine pops_done (hR74 _ ?_)
    clear hR74 R74
    try simp only [thenK]
    refine hN73 _ ?_
    clear hN73 N73
    refine pwp_cond (by simp only [St.eval, upd_at, Nat.reduceEqDiff, if_true, if_false] <;> rfl) (fun c51 => ?_) (fun c51 => ?_)
    ·skip
     have he4 : globT ro di l = globT3 ro di l ++ [47] := by rw [globT_3, if_pos c51]
     refine pwp_reg fun R75 hR75 => ?_
     refine pops_mv (.inl rfl) rfl (by simp only [St.eval, upd_at, Nat.reduceEqDiff, if_true, if_false] <;> rfl) ?_
     refine pops_to rfl fun M hM => ?_
     simp only [pop, St.eval, constSlot, upd_at, Nat.reduceEqDiff, if_true, if_false, popBin, binK, strK, eq_self, str_size, str_app]
     refine ⟨by first | omega | (simp only [List.length_append, List.length_cons, List.length_nil]; omega), hM _ _ ?_⟩
     clear hM M
     refine pops_mv (.inr rfl) rfl (by simp only [St.eval, upd_at, Nat.reduceEqDiff, if_true, if_false] <;> rfl) ?_
     refine pops_done (hR75 _ ?_)
     clear hR75 R75
     try simp only [thenK]
     refine hN72 _ ?_
     clear hN72 N72
     refine pwp_then fun N76 hN76 => ?_
     refine pwp_reg fun R77 hR77 => ?_
     refine pops_mv (.inl rfl) rfl (by simp only [St.eval, upd_at, Nat.reduceEqDiff, if_true, if_false] <;> rfl) ?_
     refine pops_mv (.inr rfl) rfl (by simp only [St.eval, upd_at, Nat.reduceEqDiff, if_true, if_false] <;> rfl) ?_
     refine pops_done (hR77 _ ?_)
     clear hR77 R77
     try simp only [thenK]
     refine hN76 _ ?_
     clear hN76 N76
     refine pwp_ret ?_
     simp only [bodyK]
     refine ⟨_, rfl, endFun sj66 ?_⟩
     try simp only [upd_at, Nat.reduceEqDiff, if_true, if_false]
     all_goals
      first
        | (rw [he4, he3, he2, he1]; done)
        | (rw [he4, he3, he2, he1]; rfl)
    ·skip
     have he4 : globT ro di l = globT3 ro di l := by rw [globT_3, if_neg (by rw [c51]; decide)]
     refine pwp_skip ?_
     try simp only [thenK]
     refine hN72 _ ?_
     clear hN72 N72
     refine pwp_then fun N78 hN78 => ?_
     refine pwp_reg fun R79 hR79 => ?_
     refine pops_mv (.inl rfl) rfl (by simp only [St.eval, upd_at, Nat.reduceEqDiff, if_true, if_false] <;> rfl) ?_
     refine pops_mv (.inr rfl) rfl (by simp only [St.eval, upd_at, Nat.reduceEqDiff, if_true, if_false] <;> rfl) ?_
     refine pops_done (hR79 _ ?_)
     clear hR79 R79
     try simp only [thenK]
     refine hN78 _ ?_
     clear hN78 N78
     refine pwp_ret ?_
     simp only [bodyK]
     refine ⟨_, rfl, endFun sj66 ?_⟩
     try simp only [upd_at, Nat.reduceEqDiff, if_true, if_false]
     all_goals
      first
        | (rw [he4, he3, he2, he1]; done)
        | (rw [he4, he3, he2, he1]; rfl)
   ·skip
    have he3 : globT3 ro di l = globT2 ro di l := by rw [globT3, if_neg (by rw [c47]; decide)]
    refine pwp_skip ?_
    try simp only [thenK]
    refine hN68 _ ?_
    clear hN68 N68
    refine pwp_then fun N80 hN80 => ?_
    refine pwp_then fun N81 hN81 => ?_
    refine pwp_reg fun R82 hR82 => ?_
    refine pops_to rfl fun M hM => ?_
    simp only [pop, St.eval, upd_at, Nat.reduceEqDiff, if_true, if_false, popFieldAddr, fieldOf, List.drop_succ_cons, List.drop_zero, List.getElem?_toArray, List.getElem?_cons_zero, List.getElem?_cons_succ, Tryd.underlying24, sz4]
    refine ⟨⟨_, rfl⟩, hM _ _ ?_⟩
    clear hM M
    refine pops_to rfl fun M hM => ?_
    simp only [pop, St.eval, upd_at, Nat.reduceEqDiff, if_true, if_false, popLoad, loadK, isAggD, Bool.false_eq_true, Tryd.underlying4, sz4, eq_self]
    refine hM _ _ ?_
    clear hM M
    refine pops_done (hR82 _ ?_)
    clear hR82 R82
    try simp only [thenK]
    refine hN81 _ ?_
    clear hN81 N81
    refine pwp_cond (by simp only [St.eval, upd_at, Nat.reduceEqDiff, if_true, if_false] <;> rfl) (fun c51 => ?_) (fun c51 => ?_)
    ·skip
     have he4 : globT ro di l = globT3 ro di l ++ [47] := by rw [globT_3, if_pos c51]
     refine pwp_reg fun R83 hR83 => ?_
     refine pops_mv (.inl rfl) rfl (by simp only [St.eval, upd_at, Nat.reduceEqDiff, if_true, if_false] <;> rfl) ?_
     refine pops_to rfl fun M hM => ?_
     simp only [pop, St.eval, constSlot, upd_at, Nat.reduceEqDiff, if_true, if_false, popBin, binK, strK, eq_self, str_size, str_app]
     refine ⟨by first | omega | (simp only [List.length_append, List.length_cons, List.length_nil]; omega), hM _ _ ?_⟩
     clear hM M
     refine pops_mv (.inr rfl) rfl (by simp only [St.eval, upd_at, Nat.reduceEqDiff, if_true, if_false] <;> rfl) ?_
     refine pops_done (hR83 _ ?_)
     clear hR83 R83
     try simp only [thenK]
     refine hN80 _ ?_
     clear hN80 N80
     refine pwp_then fun N84 hN84 => ?_
     refine pwp_reg fun R85 hR85 => ?_
     refine pops_mv (.inl rfl) rfl (by simp only [St.eval, upd_at, Nat.reduceEqDiff, if_true, if_false] <;> rfl) ?_
     refine pops_mv (.inr rfl) rfl (by simp only [St.eval, upd_at, Nat.reduceEqDiff, if_true, if_false] <;> rfl) ?_
     refine pops_done (hR85 _ ?_)
     clear hR85 R85
     try simp only [thenK]
     refine hN84 _ ?_
     clear hN84 N84
     refine pwp_ret ?_
     simp only [bodyK]
     refine ⟨_, rfl, endFun sj66 ?_⟩
     try simp only [upd_at, Nat.reduceEqDiff, if_true, if_false]
     all_goals
      first
        | (rw [he4, he3, he2, he1]; done)
        | (rw [he4, he3, he2, he1]; rfl)
    ·skip
     have he4 : globT ro di l = globT3 ro di l := by rw [globT_3, if_neg (by rw [c51]; decide)]
     refine pwp_skip ?_
     try simp only [thenK]
     refine hN80 _ ?_
     clear hN80 N80
     refine pwp_then fun N86 hN86 => ?_
     refine pwp_reg fun R87 hR87 => ?_
     refine pops_mv (.inl rfl) rfl (by simp only [St.eval, upd_at, Nat.reduceEqDiff, if_true, if_false] <;> rfl) ?_
     refine pops_mv (.inr rfl) rfl (by simp only [St.eval, upd_at, Nat.reduceEqDiff, if_true, if_false] <;> rfl) ?_
     refine pops_done (hR87 _ ?_)
     clear hR87 R87
     try simp only [thenK]
     refine hN86 _ ?_
     clear hN86 N86
     refine pwp_ret ?_
     simp only [bodyK]
     refine ⟨_, rfl, endFun sj66 ?_⟩
     try simp only [upd_at, Nat.reduceEqDiff, if_true, if_false]
     all_goals
      first
        | (rw [he4, he3, he2, he1]; done)
        | (rw [he4, he3, he2, he1]; rfl)
  ·skip
   have hc2 : ¬ (!ro && ((globT1 di l).head? == some 47)) = true := by rw [← pre_head, he1, c43]; decide
   have he2 : globT2 ro di l = globT1 di l := by rw [globT2, if_neg hc2]
   refine pwp_skip ?_
   try simp only [thenK]
   refine hN63 _ ?_
   clear hN63 N63
   refine pwp_then fun N88 hN88 => ?_
   refine pwp_then fun N89 hN89 => ?_
   refine pwp_reg fun R90 hR90 => ?_
   refine pops_to rfl fun M hM => ?_
   simp only [pop, St.eval, upd_at, Nat.reduceEqDiff, if_true, if_false, popFieldAddr, fieldOf, List.drop_zero, List.getElem?_toArray, List.getElem?_cons_zero, Tryd.underlying24, sz4]
   refine ⟨⟨_, rfl⟩, hM _ _ ?_⟩
   clear hM M
   refine pops_to rfl fun M hM => ?_
   simp only [pop, St.eval, upd_at, Nat.reduceEqDiff, if_true, if_false, popLoad, loadK, isAggD, Bool.false_eq_true, Tryd.underlying4, sz4, eq_self]
   refine hM _ _ ?_
   clear hM M
   refine pops_done (hR90 _ ?_)
   clear hR90 R90
   try simp only [thenK]
   refine hN89 _ ?_
   clear hN89 N89
   refine pwp_cond (by simp only [St.eval, upd_at, Nat.reduceEqDiff, if_true, if_false] <;> rfl) (fun c47 => ?_) (fun c47 => ?_)
   ·skip
    have he3 : globT3 ro di l = 47 :: globT2 ro di l := by rw [globT3, if_pos c47]
    refine pwp_reg fun R91 hR91 => ?_
    refine pops_mv (.inl rfl) rfl (by simp only [St.eval, upd_at, Nat.reduceEqDiff, if_true, if_false] <;> rfl) ?_
    refine pops_to rfl fun M hM => ?_
    simp only [pop, St.eval, constSlot, upd_at, Nat.reduceEqDiff, if_true, if_false, popBin, binK, strK, eq_self, str_size, str_app]
    refine ⟨by first | omega | (simp only [List.length_cons, List.length_nil]; omega), hM _ _ ?_⟩
    clear hM M
    refine pops_mv (.inr rfl) rfl (by simp only [St.eval, upd_at, Nat.reduceEqDiff, if_true, if_false] <;> rfl) ?_
    refine pops_done (hR91 _ ?_)
    clear hR91 R91
    try simp only [thenK]
    refine hN88 _ ?_
    clear hN88 N88
    refine pwp_then fun N92 hN92 => ?_
    refine pwp_then fun N93 hN93 => ?_
    refine pwp_reg fun R94 hR94 => ?_
    refine pops_to rfl fun M hM => ?_
    simp only [pop, St.eval, upd_at, Nat.reduceEqDiff, if_true, if_false, popFieldAddr, fieldOf, List.drop_succ_cons, List.drop_zero, List.getElem?_toArray, List.getElem?_cons_zero, List.getElem?_cons_succ, Tryd.underlying24, sz4]
    refine ⟨⟨_, rfl⟩, hM _ _ ?_⟩
    clear hM M
    refine pops_to rfl fun M hM => ?_
    simp only [pop, St.eval, upd_at, Nat.reduceEqDiff, if_true, if_false, popLoad, loadK, isAggD, Bool.false_eq_true, Tryd.underlying4, sz4, eq_self]
    refine hM _ _ ?_
    clear hM M
    refine pops_done (hR94 _ ?_)
    clear hR94 R94
    try simp only [thenK]
    refine hN93 _ ?_
    clear hN93 N93
    refine pwp_cond (by simp only [St.eval, upd_at, Nat.reduceEqDiff, if_true, if_false] <;> rfl) (fun c51 => ?_) (fun c51 => ?_)
    ·skip
     have he4 : globT ro di l = globT3 ro di l ++ [47] := by rw [globT_3, if_pos c51]
     refine pwp_reg fun R95 hR95 => ?_
     refine pops_mv (.inl rfl) rfl (by simp only [St.eval, upd_at, Nat.reduceEqDiff, if_true, if_false] <;> rfl) ?_
     refine pops_to rfl fun M hM => ?_
     simp only [pop, St.eval, constSlot, upd_at, Nat.reduceEqDiff, if_true, if_false, popBin, binK, strK, eq_self, str_size, str_app]
     refine ⟨by first | omega | (simp only [List.length_append, List.length_cons, List.length_nil]; omega), hM _ _ ?_⟩
     clear hM M
     refine pops_mv (.inr rfl) rfl (by simp only [St.eval, upd_at, Nat.reduceEqDiff, if_true, if_false] <;> rfl) ?_
     refine pops_done (hR95 _ ?_)
     clear hR95 R95
     try simp only [thenK]
     refine hN92 _ ?_
     clear hN92 N92
     refine pwp_then fun N96 hN96 => ?_
     refine pwp_reg fun R97 hR97 => ?_
     refine pops_mv (.inl rfl) rfl (by simp only [St.eval, upd_at, Nat.reduceEqDiff, if_true, if_false] <;> rfl) ?_
     refine pops_mv (.inr rfl) rfl (by simp only [St.eval, upd_at, Nat.reduceEqDiff, if_true, if_false] <;> rfl) ?_
     refine pops_done (hR97 _ ?_)
     clear hR97 R97
     try simp only [thenK]
     refine hN96 _ ?_
     clear hN96 N96
     refine pwp_ret ?_
     simp only [bodyK]
     refine ⟨_, rfl, endFun sj66 ?_⟩
     try simp only [upd_at, Nat.reduceEqDiff, if_true, if_false]
     all_goals
      first
        | (rw [he4, he3, he2, he1]; done)
        | (rw [he4, he3, he2, he1]; rfl)
    ·skip
     have he4 : globT ro di l = globT3 ro di l := by rw [globT_3, if_neg (by rw [c51]; decide)]
     refine pwp_skip ?_
     try simp only [thenK]
     refine hN92 _ ?_
     clear hN92 N92
     refine pwp_then fun N98 hN98 => ?_
     refine pwp_reg fun R99 hR99 => ?_
     refine pops_mv (.inl rfl) rfl (by simp only [St.eval, upd_at, Nat.reduceEqDiff, if_true, if_false] <;> rfl) ?_
     refine pops_mv (.inr rfl) rfl (by simp only [St.eval, upd_at, Nat.reduceEqDiff, if_true, if_false] <;> rfl) ?_
     refine pops_done (hR99 _ ?_)
     clear hR99 R99
     try simp only [thenK]
     refine hN98 _ ?_
     clear hN98 N98
     refine pwp_ret ?_
     simp only [bodyK]
     refine ⟨_, rfl, endFun sj66 ?_⟩
     try simp only [upd_at, Nat.reduceEqDiff, if_true, if_false]
     all_goals
      first
        | (rw [he4, he3, he2, he1]; done)
        | (rw [he4, he3, he2, he1]; rfl)
   ·skip
    have he3 : globT3 ro di l = globT2 ro di l := by rw [globT3, if_neg (by rw [c47]; decide)]
    refine pwp_skip ?_
    try simp only [thenK]
    refine hN88 _ ?_
    clear hN88 N88
    refine pwp_then fun N100 hN100 => ?_
    refine pwp_then fun N101 hN101 => ?_
    refine pwp_reg fun R102 hR102 => ?_
    refine pops_to rfl fun M hM => ?_
    simp only [pop, St.eval, upd_at, Nat.reduceEqDiff, if_true, if_false, popFieldAddr, fieldOf, List.drop_succ_cons, List.drop_zero, List.getElem?_toArray, List.getElem?_cons_zero, List.getElem?_cons_succ, Tryd.underlying24, sz4]
    refine ⟨⟨_, rfl⟩, hM _ _ ?_⟩
    clear hM M
    refine pops_to rfl fun M hM => ?_
    simp only [pop, St.eval, upd_at, Nat.reduceEqDiff, if_true, if_false, popLoad, loadK, isAggD, Bool.false_eq_true, Tryd.underlying4, sz4, eq_self]
    refine hM _ _ ?_
    clear hM M
    refine pops_done (hR102 _ ?_)
    clear hR102 R102
    try simp only [thenK]
    refine hN101 _ ?_
    clear hN101 N101
    refine pwp_cond (by simp only [St.eval, upd_at, Nat.reduceEqDiff, if_true, if_false] <;> rfl) (fun c51 => ?_) (fun c51 => ?_)
    ·skip
     have he4 : globT ro di l = globT3 ro di l ++ [47] := by rw [globT_3, if_pos c51]
     refine pwp_reg fun R103 hR103 => ?_
     refine pops_mv (.inl rfl) rfl (by simp only [St.eval, upd_at, Nat.reduceEqDiff, if_true, if_false] <;> rfl) ?_
     refine pops_to rfl fun M hM => ?_
     simp only [pop, St.eval, constSlot, upd_at, Nat.reduceEqDiff, if_true, if_false, popBin, binK, strK, eq_self, str_size, str_app]
     refine ⟨by first | omega | (simp only [List.length_cons, List.length_nil]; omega), hM _ _ ?_⟩
     clear hM M
     refine pops_mv (.inr rfl) rfl (by simp only [St.eval, upd_at, Nat.reduceEqDiff, if_true, if_false] <;> rfl) ?_
     refine pops_done (hR103 _ ?_)
     clear hR103 R103
     try simp only [thenK]
     refine hN100 _ ?_
     clear hN100 N100
     refine pwp_then fun N104 hN104 => ?_
     refine pwp_reg fun R105 hR105 => ?_
     refine pops_mv (.inl rfl) rfl (by simp only [St.eval, upd_at, Nat.reduceEqDiff, if_true, if_false] <;> rfl) ?_
     refine pops_mv (.inr rfl) rfl (by simp only [St.eval, upd_at, Nat.reduceEqDiff, if_true, if_false] <;> rfl) ?_
     refine pops_done (hR105 _ ?_)
     clear hR105 R105
     try simp only [thenK]
     refine hN104 _ ?_
     clear hN104 N104
     refine pwp_ret ?_
     simp only [bodyK]
     refine ⟨_, rfl, endFun sj66 ?_⟩
     try simp only [upd_at, Nat.reduceEqDiff, if_true, if_false]
     all_goals
      first
        | (rw [he4, he3, he2, he1]; done)
        | (rw [he4, he3, he2, he1]; rfl)
    ·skip
     have he4 : globT ro di l = globT3 ro di l := by rw [globT_3, if_neg (by rw [c51]; decide)]
     refine pwp_skip ?_
     try simp only [thenK]
     refine hN100 _ ?_
     clear hN100 N100
     refine pwp_then fun N106 hN106 => ?_
     refine pwp_reg fun R107 hR107 => ?_
     refine pops_mv (.inl rfl) rfl (by simp only [St.eval, upd_at, Nat.reduceEqDiff, if_true, if_false] <;> rfl) ?_
     refine pops_mv (.inr rfl) rfl (by simp only [St.eval, upd_at, Nat.reduceEqDiff, if_true, if_false] <;> rfl) ?_
     refine pops_done (hR107 _ ?_)
     clear hR107 R107
     try simp only [thenK]
     refine hN106 _ ?_
     clear hN106 N106
     refine pwp_ret ?_
     simp only [bodyK]
     refine ⟨_, rfl, endFun sj66 ?_⟩
     try simp only [upd_at, Nat.reduceEqDiff, if_true, if_false]
     all_goals
      first
        | (rw [he4, he3, he2, he1]; done)
        | (rw [he4, he3, he2, he1]; rfl)
end Go.Pw
