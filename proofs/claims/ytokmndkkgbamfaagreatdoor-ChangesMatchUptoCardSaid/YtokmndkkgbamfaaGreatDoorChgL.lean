import Derived.Test.YtokmndkkgbamfaaGreatDoorChgW
import Derived.Test.YtokmndkkgbamfaaGreatDoorChgE
import Derived.Test.YtokmndkkgbamfaaGreatDoorChgT
import Derived.Test.YtokmndkkgbamfaaGreatDoorChgFacts
namespace Go.Pw
open Go Go.RowKit Go.Proofs
set_option maxRecDepth 100000
set_option linter.unusedSimpArgs false
set_option linter.unusedVariables false
theorem PCalls.arg {P : Program} {W0 : World} {h : Hp} {f : FuncId} {args args' : List SV} {R : Slot → Hp → Prop} (H : PCalls P W0 f args' h R) (hl : args.length = args'.length)
    (hs : ∀ (j : Nat) (s s' : SV) (w : World) (m : Loc) (v : Value), args[j]? = some s → args'[j]? = some s' → SVR w h m s v → SVR w h m s' v) : PCalls P W0 f args h R :=
  ⟨H.1, fun w m vs a b c => H.2 w m vs a (b.trans hl) fun j s' v h1 h2 => by
    have hj : j < args.length := by rw [hl]; exact (List.getElem?_eq_some_iff.1 h1).1
    exact hs j args[j] s' w m v (List.getElem?_eq_getElem hj) h1 (c j _ v (List.getElem?_eq_getElem hj) h2)⟩

theorem ref_eq {b : Int} {A B : List MarkG} {l' : List (Int × List UInt8)} (h0 : (chgsR b A B).2 = 0 → l'.Perm (foundA b A B A.length) ∧ l'.Pairwise (fun x y => ordR x.2 y.2 ≤ 0)) (h1 : (chgsR b A B).2 ≠ 0 → l' = []) : l' = (chgsR b A B).1 := by
  unfold chgsR at h0 h1 ⊢
  split
  · rename_i h
    rw [if_pos h] at h1
    exact h1 (by decide)
  · rename_i h
    rw [if_neg h] at h0 h1
    split
    · rename_i k
      rw [if_pos k] at h1
      exact h1 (by decide)
    · rename_i k
      rw [if_neg k] at h0
      obtain ⟨hp, hs⟩ := h0 rfl
      have hA : risesB A = true := by cases h : risesB A with | true => rfl | false => exact absurd (.inl h) k
      have hB : risesB B = true := by cases h : risesB B with | true => rfl | false => exact absurd (.inr h) k
      exact sorted_merge hA hB hp hs
theorem ref_len {b : Int} {A B : List MarkG} {l' : List (Int × List UInt8)} (h0 : (chgsR b A B).2 = 0 → l'.Perm (foundA b A B A.length) ∧ l'.Pairwise (fun x y => ordR x.2 y.2 ≤ 0)) (h1 : (chgsR b A B).2 ≠ 0 → l' = []) : l'.length ≤ A.length + B.length := by
  by_cases h : (chgsR b A B).2 = 0
  · rw [(h0 h).1.length_eq]
    exact foundA_len b A B A.length
  · rw [h1 h]
    exact Nat.zero_le _
theorem eqRows (W0 : World) (l : List (Int × List UInt8)) (hl : l.length ≤ 9223372036854775807) {s1 s2 : PV} (h1 : s1 = .val (.slice none 0 0) ∧ l = [] ∨ s1 = .ro false 2 (l.map chgPV)) (h2 : s2 = .val (.slice none 0 0) ∧ l = [] ∨ s2 = .ro false 2 (l.map chgPV)) :
    PFun Tryz.prog W0 39 [.one s1, .one s2] (.sv (.one (pbool true))) := by
  have hv : ∀ {w : World} {h : Hp} {m : Loc} {s : PV} {v : Value}, (s = .val (.slice none 0 0) ∧ l = [] ∨ s = .ro false 2 (l.map chgPV)) → VR w h m s v → VR w h m (.ro false 2 (l.map chgPV)) v := by
    intro w h m s v hs H
    rcases hs with ⟨rfl, rfl⟩ | rfl
    · cases H
      exact .ro0 _ _ _ _ (fun _ => rfl)
    · exact H
  intro h
  refine PCalls.arg (listeqChg_fun W0 l hl h) rfl fun j s s' w m v e1 e2 H => ?_
  match j, e1, e2 with
  | 0, e1, e2 => obtain rfl := Option.some.inj e1; obtain rfl := Option.some.inj e2; exact hv h1 H
  | 1, e1, e2 => obtain rfl := Option.some.inj e1; obtain rfl := Option.some.inj e2; exact hv h2 H
theorem nm4 : (Tryz.f4.name == "runtime.NumGoroutine") = false := by kernel_rfl
theorem changes_law (W0 : World) (hm : HasMax W0) (A B : List MarkG) (b x y : Int) (hnA : A.length ≤ 1048576) (hnB : B.length ≤ 1048576) (hpA : ∀ x ∈ A, x.path.length ≤ 9223372036854775807) (hpB : ∀ x ∈ B, x.path.length ≤ 9223372036854775807) :
  PFun Tryz.prog W0 4 [.one (.ro false 4 (A.map markPV)), .one (.ro false 4 (B.map markPV)), .one (pint b), .one (pint x), .one (pint y)] (.sv (.one (pbool true))) := by
 intro h
 refine pcalls5 (n := 50) Tryz.func4 rfl nm4 rfl fun hb => ?_
 refine pwp_then fun N1 hN1 => ?_
 refine pwp_reg fun R2 hR2 => ?_
 refine pops_mv (.inr rfl) rfl (by simp only [St.eval, constSlot] <;> rfl) ?_
 refine pops_done (hR2 _ ?_)
 clear hR2 R2
 try simp only [thenK, scopeK]
 refine hN1 _ ?_
 clear hN1 N1
 refine pwp_then fun N3 hN3 => ?_
 refine pwp_then fun N4 hN4 => ?_
 refine pwp_reg fun R5 hR5 => ?_
 refine pops_to rfl fun M hM => ?_
 simp only [pop, St.eval, constSlot, upd_at, Nat.reduceEqDiff, if_true, if_false, popCall, List.toList_toArray, List.map_cons, List.map_nil, svs, List.mapM_cons, List.mapM_nil, Option.bind_eq_bind, Option.bind_some, Option.pure_def, List.append_nil, List.cons_append, List.nil_append, str_size, markPV]
 refine PFun.use (landed_fun W0 hm) fun h1 s1 => hM _ _ ?_
 replace s1 := Same.trans (Same.refl _) s1
 clear hM M
 refine pops_to rfl fun M hM => ?_
 simp only [pop, St.eval, constSlot, upd_at, Nat.reduceEqDiff, if_true, if_false, unK, markPV]
 refine hM _ _ ?_
 clear hM M
 refine pops_done (hR5 _ ?_)
 clear hR5 R5
 try simp only [thenK, scopeK]
 refine hN4 _ ?_
 clear hN4 N4
 refine pwp_cond (by simp only [St.eval, upd_at, Nat.reduceEqDiff, if_true, if_false, markPV] <;> rfl) (fun c16 => ?_) (fun c16 => ?_)
 ·skip
  simp at c16
 ·skip
  refine pwp_skip ?_
  try simp only [thenK, scopeK]
  refine hN3 _ ?_
  clear hN3 N3
  refine pwp_then fun N6 hN6 => ?_
  refine pwp_reg fun R7 hR7 => ?_
  refine pops_mv (.inl rfl) rfl (by simp only [St.eval, upd_at, Nat.reduceEqDiff, if_true, if_false, markPV] <;> rfl) ?_
  refine pops_mv (.inl rfl) rfl (by simp only [St.eval, upd_at, Nat.reduceEqDiff, if_true, if_false, markPV] <;> rfl) ?_
  refine pops_mv (.inl rfl) rfl (by simp only [St.eval, upd_at, Nat.reduceEqDiff, if_true, if_false, markPV] <;> rfl) ?_
  refine pops_to rfl fun M hM => ?_
  simp only [pop, St.eval, constSlot, upd_at, Nat.reduceEqDiff, if_true, if_false, popCall, List.toList_toArray, List.map_cons, List.map_nil, svs, List.mapM_cons, List.mapM_nil, Option.bind_eq_bind, Option.bind_some, Option.pure_def, List.append_nil, List.cons_append, List.nil_append, str_size, markPV]
  refine (changes_fun W0 A B b hnA hnB hpA hpB _).mono ?_
  rintro _ h1 ⟨u1, rfl, hs1, q1⟩
  replace q1 := Same.trans s1 q1
  refine hM _ _ ?_
  clear hM M
  refine pops_mv (.inl rfl) rfl (by simp only [St.eval, upd_at, Nat.reduceEqDiff, if_true, if_false, markPV] <;> rfl) ?_
  refine pops_to rfl fun M hM => ?_
  simp only [pop, St.eval, constSlot, upd_at, Nat.reduceEqDiff, if_true, if_false, List.getElem?_toArray, List.getElem?_cons_zero, List.getElem?_cons_succ, markPV]
  refine hM _ _ ?_
  clear hM M
  refine pops_to rfl fun M hM => ?_
  simp only [pop, St.eval, constSlot, upd_at, Nat.reduceEqDiff, if_true, if_false, List.getElem?_toArray, List.getElem?_cons_zero, List.getElem?_cons_succ, markPV]
  refine hM _ _ ?_
  clear hM M
  refine pops_mv (.inr rfl) rfl (by simp only [St.eval, upd_at, Nat.reduceEqDiff, if_true, if_false, markPV] <;> rfl) ?_
  refine pops_mv (.inr rfl) rfl (by simp only [St.eval, upd_at, Nat.reduceEqDiff, if_true, if_false, markPV] <;> rfl) ?_
  refine pops_done (hR7 _ ?_)
  clear hR7 R7
  try simp only [thenK, scopeK]
  refine hN6 _ ?_
  clear hN6 N6
  refine pwp_then fun N8 hN8 => ?_
  refine pwp_reg fun R9 hR9 => ?_
  refine pops_mv (.inl rfl) rfl (by simp only [St.eval, upd_at, Nat.reduceEqDiff, if_true, if_false, markPV] <;> rfl) ?_
  refine pops_mv (.inl rfl) rfl (by simp only [St.eval, upd_at, Nat.reduceEqDiff, if_true, if_false, markPV] <;> rfl) ?_
  refine pops_mv (.inl rfl) rfl (by simp only [St.eval, upd_at, Nat.reduceEqDiff, if_true, if_false, markPV] <;> rfl) ?_
  refine pops_to rfl fun M hM => ?_
  simp only [pop, St.eval, constSlot, upd_at, Nat.reduceEqDiff, if_true, if_false, popCall, List.toList_toArray, List.map_cons, List.map_nil, svs, List.mapM_cons, List.mapM_nil, Option.bind_eq_bind, Option.bind_some, Option.pure_def, List.append_nil, List.cons_append, List.nil_append, str_size, markPV]
  refine (changesRef_fun W0 (sortC_proof W0) A B b hnA hnB hpA hpB _).mono ?_
  rintro _ h2 ⟨u2, rfl, ⟨l2, hs2, hp2, he2⟩, q2⟩
  have hlen2 := ref_len hp2 he2
  obtain rfl := ref_eq hp2 he2
  replace q2 := Same.trans q1 q2
  refine hM _ _ ?_
  clear hM M
  refine pops_mv (.inl rfl) rfl (by simp only [St.eval, upd_at, Nat.reduceEqDiff, if_true, if_false, markPV] <;> rfl) ?_
  refine pops_to rfl fun M hM => ?_
  simp only [pop, St.eval, constSlot, upd_at, Nat.reduceEqDiff, if_true, if_false, List.getElem?_toArray, List.getElem?_cons_zero, List.getElem?_cons_succ, markPV]
  refine hM _ _ ?_
  clear hM M
  refine pops_to rfl fun M hM => ?_
  simp only [pop, St.eval, constSlot, upd_at, Nat.reduceEqDiff, if_true, if_false, List.getElem?_toArray, List.getElem?_cons_zero, List.getElem?_cons_succ, markPV]
  refine hM _ _ ?_
  clear hM M
  refine pops_mv (.inr rfl) rfl (by simp only [St.eval, upd_at, Nat.reduceEqDiff, if_true, if_false, markPV] <;> rfl) ?_
  refine pops_mv (.inr rfl) rfl (by simp only [St.eval, upd_at, Nat.reduceEqDiff, if_true, if_false, markPV] <;> rfl) ?_
  refine pops_done (hR9 _ ?_)
  clear hR9 R9
  try simp only [thenK, scopeK]
  refine hN8 _ ?_
  clear hN8 N8
  refine pwp_then fun N10 hN10 => ?_
  refine pwp_reg fun R11 hR11 => ?_
  refine pops_mv (.inl rfl) rfl (by simp only [St.eval, upd_at, Nat.reduceEqDiff, if_true, if_false, markPV] <;> rfl) ?_
  refine pops_mv (.inl rfl) rfl (by simp only [St.eval, upd_at, Nat.reduceEqDiff, if_true, if_false, markPV] <;> rfl) ?_
  refine pops_to rfl fun M hM => ?_
  simp only [pop, St.eval, constSlot, upd_at, Nat.reduceEqDiff, if_true, if_false, popBin, binK, intK, strK, eqK, Tryz.underlying27, isPtr, eq_self, true_and, and_true, markPV]
  refine hM _ _ ?_
  clear hM M
  refine pops_mv (.inl rfl) rfl (by simp only [St.eval, upd_at, Nat.reduceEqDiff, if_true, if_false, markPV] <;> rfl) ?_
  apply pops_and 6 34 40 [35, 36, 37, 38, 39] (by simp only [upd_at, Nat.reduceEqDiff, if_true, if_false, markPV] <;> rfl)
  ·skip
   intro g34_0 J12 hJ12
   simp only [List.take_succ_cons, List.take_zero]
   simp only [anyAt_cons, anyAt_nil] at hJ12
   refine pops_mvg (.inl rfl) rfl rfl (by simp only [upd_at, Nat.reduceEqDiff, if_true, if_false, markPV, g34_0]) (by simp only [St.eval, upd_at, Nat.reduceEqDiff, if_true, if_false, markPV, g34_0] <;> rfl) ?_
   refine pops_do rfl rfl (by simp only [upd_at, Nat.reduceEqDiff, if_true, if_false, markPV, g34_0]) fun M hM => ?_
   simp only [pop, St.eval, constSlot, upd_at, Nat.reduceEqDiff, if_true, if_false, ifcOf, notIface, Tryz.underlying45, eq_self, true_and, and_true, str_list, str_size, str_app, str_cut, str_get, markPV, g34_0]
   refine hM _ _ ?_
   clear hM M
   refine pops_mvg (.inl rfl) rfl rfl (by simp only [upd_at, Nat.reduceEqDiff, if_true, if_false, markPV, g34_0]) (by simp only [St.eval, upd_at, Nat.reduceEqDiff, if_true, if_false, markPV, g34_0] <;> rfl) ?_
   refine pops_do rfl rfl (by simp only [upd_at, Nat.reduceEqDiff, if_true, if_false, markPV, g34_0]) fun M hM => ?_
   simp only [pop, St.eval, constSlot, upd_at, Nat.reduceEqDiff, if_true, if_false, ifcOf, notIface, Tryz.underlying45, eq_self, true_and, and_true, str_list, str_size, str_app, str_cut, str_get, markPV, g34_0]
   refine hM _ _ ?_
   clear hM M
   refine pops_do rfl rfl (by simp only [upd_at, Nat.reduceEqDiff, if_true, if_false, markPV, g34_0]) fun M hM => ?_
   simp only [pop, St.eval, constSlot, upd_at, Nat.reduceEqDiff, if_true, if_false, popCall, List.toList_toArray, List.map_cons, List.map_nil, svs, List.mapM_cons, List.mapM_nil, Option.bind_eq_bind, Option.bind_some, Option.pure_def, List.append_nil, List.cons_append, List.nil_append, str_size, markPV, g34_0]
   refine PFun.use (alike_fun W0 u1 u2 true (eqRows W0 _ (by omega) hs1 hs2)) fun h2 s2 => hM _ _ ?_
   replace s2 := Same.trans (Same.refl _) s2
   clear hM M
   refine pops_to rfl fun M hM => ?_
   simp only [pop, St.eval, constSlot, upd_at, Nat.reduceEqDiff, if_true, if_false, popIf, true_implies, false_implies, Bool.true_eq_false, Bool.false_eq_true, reduceCtorEq, true_and, and_true, markPV, g34_0]
   refine hM _ _ ?_
   clear hM M
   exact pops_done (hJ12 _ _ s2 (wk_same (wk_any ((wk_any ((wk_any ((wk_any ((wk_any (Wk.refl _ _))))))))))))
  ·skip
   intro g34_0 J12 hJ12
   simp only [List.take_succ_cons, List.take_zero]
   simp only [anyAt_cons, anyAt_nil] at hJ12
   refine pops_off (b := false) rfl rfl (by simp only [upd_at, Nat.reduceEqDiff, if_true, if_false, markPV, g34_0]) (by decide) ?_
   refine pops_off (b := false) rfl rfl (by simp only [upd_at, Nat.reduceEqDiff, if_true, if_false, markPV, g34_0]) (by decide) ?_
   refine pops_off (b := false) rfl rfl (by simp only [upd_at, Nat.reduceEqDiff, if_true, if_false, markPV, g34_0]) (by decide) ?_
   refine pops_off (b := false) rfl rfl (by simp only [upd_at, Nat.reduceEqDiff, if_true, if_false, markPV, g34_0]) (by decide) ?_
   refine pops_off (b := false) rfl rfl (by simp only [upd_at, Nat.reduceEqDiff, if_true, if_false, markPV, g34_0]) (by decide) ?_
   refine pops_to rfl fun M hM => ?_
   simp only [pop, St.eval, constSlot, upd_at, Nat.reduceEqDiff, if_true, if_false, popIf, true_implies, false_implies, Bool.true_eq_false, Bool.false_eq_true, reduceCtorEq, true_and, and_true, markPV, g34_0]
   refine hM _ _ ?_
   clear hM M
   exact pops_done (hJ12 _ _ (Same.refl _) (wk_same (wk_any ((wk_any ((wk_any ((wk_any ((wk_any (Wk.refl _ _))))))))))))
  simp only [List.drop_succ_cons, List.drop_zero, anyAt_cons, anyAt_nil]
  intro hj12 sj12
  replace sj12 := Same.trans q2 sj12
  refine pops_mv (.inl rfl) rfl (by simp only [St.eval, upd_at, Nat.reduceEqDiff, if_true, if_false, markPV] <;> rfl) ?_
  apply pops_and 8 41 49 [42, 43, 44, 45, 46, 47, 48] (by simp only [upd_at, Nat.reduceEqDiff, if_true, if_false, markPV] <;> rfl)
  ·skip
   intro g41_0 J13 hJ13
   simp only [List.take_succ_cons, List.take_zero]
   simp only [anyAt_cons, anyAt_nil] at hJ13
   refine pops_mvg (.inl rfl) rfl rfl (by simp only [upd_at, Nat.reduceEqDiff, if_true, if_false, markPV, g41_0]) (by simp only [St.eval, upd_at, Nat.reduceEqDiff, if_true, if_false, markPV, g41_0] <;> rfl) ?_
   refine pops_mvg (.inl rfl) rfl rfl (by simp only [upd_at, Nat.reduceEqDiff, if_true, if_false, markPV, g41_0]) (by simp only [St.eval, upd_at, Nat.reduceEqDiff, if_true, if_false, markPV, g41_0] <;> rfl) ?_
   refine pops_do rfl rfl (by simp only [upd_at, Nat.reduceEqDiff, if_true, if_false, markPV, g41_0]) fun M hM => ?_
   simp only [pop, St.eval, constSlot, upd_at, Nat.reduceEqDiff, if_true, if_false, popCall, List.toList_toArray, List.map_cons, List.map_nil, svs, List.mapM_cons, List.mapM_nil, Option.bind_eq_bind, Option.bind_some, Option.pure_def, List.append_nil, List.cons_append, List.nil_append, str_size, markPV, g41_0]
   refine PFun.use (decide_fun W0 x y) fun h3 s3 => hM _ _ ?_
   replace s3 := Same.trans (Same.refl _) s3
   clear hM M
   refine pops_mvg (.inl rfl) rfl rfl (by simp only [upd_at, Nat.reduceEqDiff, if_true, if_false, markPV, g41_0]) (by simp only [St.eval, upd_at, Nat.reduceEqDiff, if_true, if_false, markPV, g41_0] <;> rfl) ?_
   refine pops_mvg (.inl rfl) rfl rfl (by simp only [upd_at, Nat.reduceEqDiff, if_true, if_false, markPV, g41_0]) (by simp only [St.eval, upd_at, Nat.reduceEqDiff, if_true, if_false, markPV, g41_0] <;> rfl) ?_
   refine pops_do rfl rfl (by simp only [upd_at, Nat.reduceEqDiff, if_true, if_false, markPV, g41_0]) fun M hM => ?_
   simp only [pop, St.eval, constSlot, upd_at, Nat.reduceEqDiff, if_true, if_false, popCall, List.toList_toArray, List.map_cons, List.map_nil, svs, List.mapM_cons, List.mapM_nil, Option.bind_eq_bind, Option.bind_some, Option.pure_def, List.append_nil, List.cons_append, List.nil_append, str_size, markPV, g41_0]
   refine PFun.use (decideRef_fun W0 x y) fun h4 s4 => hM _ _ ?_
   replace s4 := Same.trans s3 s4
   clear hM M
   refine pops_do rfl rfl (by simp only [upd_at, Nat.reduceEqDiff, if_true, if_false, markPV, g41_0]) fun M hM => ?_
   simp only [pop, St.eval, constSlot, upd_at, Nat.reduceEqDiff, if_true, if_false, popBin, binK, intK, strK, eqK, Tryz.underlying3, isPtr, eq_self, true_and, and_true, markPV, g41_0]
   refine hM _ _ ?_
   clear hM M
   refine pops_to rfl fun M hM => ?_
   simp only [pop, St.eval, constSlot, upd_at, Nat.reduceEqDiff, if_true, if_false, popIf, true_implies, false_implies, Bool.true_eq_false, Bool.false_eq_true, reduceCtorEq, true_and, and_true, markPV, g41_0]
   refine hM _ _ ?_
   clear hM M
   exact pops_done (hJ13 _ _ s4 (wk_same (wk_any ((wk_any ((wk_any ((wk_any ((wk_any ((wk_any ((wk_any (Wk.refl _ _))))))))))))))))
  ·skip
   intro g41_0 J13 hJ13
   simp only [List.take_succ_cons, List.take_zero]
   simp only [anyAt_cons, anyAt_nil] at hJ13
   refine pops_off (b := false) rfl rfl (by simp only [upd_at, Nat.reduceEqDiff, if_true, if_false, markPV, g41_0]) (by decide) ?_
   refine pops_off (b := false) rfl rfl (by simp only [upd_at, Nat.reduceEqDiff, if_true, if_false, markPV, g41_0]) (by decide) ?_
   refine pops_off (b := false) rfl rfl (by simp only [upd_at, Nat.reduceEqDiff, if_true, if_false, markPV, g41_0]) (by decide) ?_
   refine pops_off (b := false) rfl rfl (by simp only [upd_at, Nat.reduceEqDiff, if_true, if_false, markPV, g41_0]) (by decide) ?_
   refine pops_off (b := false) rfl rfl (by simp only [upd_at, Nat.reduceEqDiff, if_true, if_false, markPV, g41_0]) (by decide) ?_
   refine pops_off (b := false) rfl rfl (by simp only [upd_at, Nat.reduceEqDiff, if_true, if_false, markPV, g41_0]) (by decide) ?_
   refine pops_off (b := false) rfl rfl (by simp only [upd_at, Nat.reduceEqDiff, if_true, if_false, markPV, g41_0]) (by decide) ?_
   refine pops_to rfl fun M hM => ?_
   simp only [pop, St.eval, constSlot, upd_at, Nat.reduceEqDiff, if_true, if_false, popIf, true_implies, false_implies, Bool.true_eq_false, Bool.false_eq_true, reduceCtorEq, true_and, and_true, markPV, g41_0]
   refine hM _ _ ?_
   clear hM M
   exact pops_done (hJ13 _ _ (Same.refl _) (wk_same (wk_any ((wk_any ((wk_any ((wk_any ((wk_any ((wk_any ((wk_any (Wk.refl _ _))))))))))))))))
  simp only [List.drop_succ_cons, List.drop_zero, anyAt_cons, anyAt_nil]
  intro hj13 sj13
  replace sj13 := Same.trans sj12 sj13
  refine pops_mv (.inr rfl) rfl (by simp only [St.eval, upd_at, Nat.reduceEqDiff, if_true, if_false, markPV] <;> rfl) ?_
  refine pops_done (hR11 _ ?_)
  clear hR11 R11
  try simp only [thenK, scopeK]
  refine hN10 _ ?_
  clear hN10 N10
  refine pwp_ret ?_
  simp only [thenK, blockK, scopeK, bodyK]
  refine ⟨_, rfl, endFun sj13 ?_⟩
  try simp only [upd_at, Nat.reduceEqDiff, if_true, if_false, markPV]
  all_goals
   simp
end Go.Pw
