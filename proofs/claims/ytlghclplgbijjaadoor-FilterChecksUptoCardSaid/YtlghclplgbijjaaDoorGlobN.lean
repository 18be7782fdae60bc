/- Own work: part of the proof of the row YtlghclplgbijjaaDoorRowFilterChecksUpto; no condition of its own. -/
import Derived.Test.YtlghclplgbijjaaDoorGlobM
import Derived.Test.YtlghclplgbijjaaDoorGFacts
namespace Go.Pw
open Go Go.RowKit Go.Proofs
set_option maxRecDepth 100000
set_option linter.unusedSimpArgs false
set_option linter.unusedVariables false
structure RuleG where
  inc : Bool
  ro : Bool
  di : Bool
  parts : List GPart
structure FiltG where
  rules : List RuleG
  minS : Int
  maxS : Int
  minA : Int
  maxA : Int
  dep : Int
structure InfG where
  path : List UInt8
  dir : Bool
  size : Int
  time : Int
  p1 : PV
  p2 : PV
  id : List UInt8
abbrev rulePV (r : RuleG) : List PV := [pbool r.inc, pbool r.ro, pbool r.di, .ro false 5 (encL r.parts)]
abbrev filtPV (f : FiltG) : List PV := [.ro false 4 (f.rules.map rulePV), pint f.minS, pint f.maxS, pint f.minA, pint f.maxA, pint f.dep]
abbrev infPV (x : InfG) : List PV := [pstr x.path, pbool x.dir, pint x.size, pint x.time, x.p1, x.p2, pstr x.id]
def rulesE : List RuleG → Int
  | [] => 0
  | r :: l => if chkGlob r.ro r.di r.parts ≠ 0 then chkGlob r.ro r.di r.parts else rulesE l
def limB (m l : Int) : Bool := decide (m < -1) || ((m != -1) && decide (m < l))
def rngF (f : FiltG) : Bool := (((decide (f.minS < 0) || decide (f.minA < 0)) || decide (f.dep < 0)) || limB f.maxS f.minS) || limB f.maxA f.minA
def filtE (f : FiltG) : Int := if 200 < f.rules.length then 8 else if rulesE f.rules ≠ 0 then rulesE f.rules else if rngF f then 7 else 0
theorem rules_step {l : List RuleG} {i : Nat} {r : RuleG} (h : l[i]? = some r) : rulesE (l.drop i) = if chkGlob r.ro r.di r.parts ≠ 0 then chkGlob r.ro r.di r.parts else rulesE (l.drop (i + 1)) := by rw [drop_at h, rulesE]
theorem rule_at {l : List RuleG} {i : Nat} {r : RuleG} (h : l[i]? = some r) : (l.map rulePV)[i]? = some [pbool r.inc, pbool r.ro, pbool r.di, .ro false 5 (encL r.parts)] := by rw [List.getElem?_map, h]; rfl
theorem lim_ref (m l : Int) : (decide (m < -1) || (decide (m ≥ 0) && decide (m < l))) = limB m l := by
  unfold limB
  by_cases h1 : m < -1
  · simp [h1]
  · by_cases h2 : m = -1
    · subst h2; simp
    · have e1 : decide (m ≥ 0) = true := decide_eq_true (by omega)
      have e2 : (m != -1) = true := by simpa using h2
      rw [e1, e2]
theorem rng_ref (f : FiltG) : ((((((decide (f.minS < 0) || decide (f.minA < 0)) || decide (f.dep < 0)) || decide (f.maxS < -1)) || (decide (f.maxS ≥ 0) && decide (f.maxS < f.minS))) || decide (f.maxA < -1)) || (decide (f.maxA ≥ 0) && decide (f.maxA < f.minA))) = rngF f := by
  unfold rngF
  rw [← lim_ref, ← lim_ref]
  simp only [Bool.or_assoc]
theorem nm20 : (Tryd.f20.name == "runtime.NumGoroutine") = false := by kernel_rfl
set_option maxHeartbeats 2000000 in
theorem checkGlob_fun (W0 : World) (ro di : Bool) (l : List GPart) (hl : lW l ≤ 1048576) :
  PFun Tryd.prog W0 20 [.agg [pbool ro, pbool di, .ro false 5 (encL l)]] (.sv (.one (pint (chkGlob ro di l)))) := by
 intro h
 refine pcalls1 (n := 38) Tryd.func20 rfl nm20 rfl fun hb => ?_
 refine pwp_then fun N1 hN1 => ?_
 refine pwp_reg fun R2 hR2 => ?_
 refine pops_to rfl fun M hM => ?_
 simp only [pop, St.eval, upd_at, if_true, popBox, popBoxRo, slotCells]
 refine .inr ⟨Nat.succ_pos _, hM _ _ ?_⟩
 clear hM M
 refine pops_mv (.inr rfl) rfl (by simp only [St.eval, constSlot] <;> rfl) ?_
 refine pops_done (hR2 _ ?_)
 clear hR2 R2
 try simp only [thenK]
 refine hN1 _ ?_
 clear hN1 N1
 refine pwp_then fun N3 hN3 => ?_
 refine pwp_reg fun R4 hR4 => ?_
 refine pops_to rfl fun M hM => ?_
 simp only [pop, St.eval, upd_at, Nat.reduceEqDiff, if_true, if_false, popFieldAddr, fieldOf, List.drop_succ_cons, List.drop_zero, List.getElem?_toArray, List.getElem?_cons_zero, List.getElem?_cons_succ, Tryd.underlying24, sz22]
 refine ⟨⟨_, rfl⟩, hM _ _ ?_⟩
 clear hM M
 refine pops_to rfl fun M hM => ?_
 simp only [pop, St.eval, upd_at, Nat.reduceEqDiff, if_true, if_false, popLoad, loadK, isAggD, Bool.false_eq_true, Tryd.underlying22, sz22, eq_self]
 refine hM _ _ ?_
 clear hM M
 refine pops_to rfl fun M hM => ?_
 simp only [pop, St.eval, constSlot, upd_at, Nat.reduceEqDiff, if_true, if_false, popCall, List.map_nil, svs, List.mapM_cons, List.mapM_nil, Option.bind_eq_bind, Option.bind_some, Option.pure_def, List.append_nil]
 refine PFun.use (partCount_fun W0 l hl) fun h1 s1 => hM _ _ ?_
 replace s1 := Same.trans (Same.refl _) s1
 clear hM M
 refine pops_mv (.inl rfl) rfl (by simp only [St.eval, upd_at, Nat.reduceEqDiff, if_true, if_false] <;> rfl) ?_
 refine pops_to rfl fun M hM => ?_
 simp only [pop, St.eval, upd_at, Nat.reduceEqDiff, if_true, if_false, List.getElem?_cons_zero]
 refine hM _ _ ?_
 clear hM M
 refine pops_to rfl fun M hM => ?_
 simp only [pop, St.eval, upd_at, Nat.reduceEqDiff, if_true, if_false, List.getElem?_cons_zero, List.getElem?_cons_succ]
 refine hM _ _ ?_
 clear hM M
 refine pops_mv (.inr rfl) rfl (by simp only [St.eval, upd_at, Nat.reduceEqDiff, if_true, if_false] <;> rfl) ?_
 refine pops_mv (.inr rfl) rfl (by simp only [St.eval, upd_at, Nat.reduceEqDiff, if_true, if_false] <;> rfl) ?_
 refine pops_done (hR4 _ ?_)
 clear hR4 R4
 try simp only [thenK]
 refine hN3 _ ?_
 clear hN3 N3
 refine pwp_then fun N5 hN5 => ?_
 refine pwp_then fun N6 hN6 => ?_
 refine pwp_reg fun R7 hR7 => ?_
 refine pops_mv (.inl rfl) rfl (by simp only [St.eval, upd_at, Nat.reduceEqDiff, if_true, if_false] <;> rfl) ?_
 refine pops_to rfl fun M hM => ?_
 simp only [pop, St.eval, constSlot, upd_at, Nat.reduceEqDiff, if_true, if_false, popBin, binK, intK, eq_self, true_and]
 refine hM _ _ ?_
 clear hM M
 refine pops_mv (.inl rfl) rfl (by simp only [St.eval, upd_at, Nat.reduceEqDiff, if_true, if_false] <;> rfl) ?_
 apply pops_or0 3 14 17 [15, 16] (by simp only [upd_at, Nat.reduceEqDiff, if_true, if_false] <;> rfl)
 ·skip
  intro g14_0 J8 hJ8
  simp only [List.take_succ_cons, List.take_zero]
  simp only [anyAt_cons, anyAt_nil] at hJ8
  refine pops_mvg (.inl rfl) rfl rfl (by simp only [upd_at, Nat.reduceEqDiff, if_true, if_false, g14_0]) (by simp only [St.eval, upd_at, Nat.reduceEqDiff, if_true, if_false, g14_0] <;> rfl) ?_
  refine pops_do rfl rfl (by simp only [upd_at, Nat.reduceEqDiff, if_true, if_false, g14_0]) fun M hM => ?_
  simp only [pop, St.eval, constSlot, upd_at, Nat.reduceEqDiff, if_true, if_false, popBin, binK, intK, eq_self, true_and, g14_0]
  refine hM _ _ ?_
  clear hM M
  refine pops_to rfl fun M hM => ?_
  simp only [pop, St.eval, constSlot, upd_at, Nat.reduceEqDiff, if_true, if_false, true_implies, false_implies, Bool.false_eq_true, reduceCtorEq, true_and, g14_0]
  refine hM _ _ ?_
  clear hM M
  exact pops_done (hJ8 _ (wk_same (wk_any ((wk_any (Wk.refl _ _))))))
 ·skip
  intro g14_0 J8 hJ8
  simp only [List.take_succ_cons, List.take_zero]
  simp only [anyAt_cons, anyAt_nil] at hJ8
  refine pops_off (b := true) rfl rfl (by simp only [upd_at, Nat.reduceEqDiff, if_true, if_false, g14_0]) (by decide) ?_
  refine pops_off (b := true) rfl rfl (by simp only [upd_at, Nat.reduceEqDiff, if_true, if_false, g14_0]) (by decide) ?_
  refine pops_to rfl fun M hM => ?_
  simp only [pop, St.eval, constSlot, upd_at, Nat.reduceEqDiff, if_true, if_false, true_implies, false_implies, Bool.true_eq_false, reduceCtorEq, and_true, g14_0]
  refine hM _ _ ?_
  clear hM M
  exact pops_done (hJ8 _ (wk_same (wk_any ((wk_any (Wk.refl _ _))))))
 simp only [List.drop_succ_cons, List.drop_zero, anyAt_cons, anyAt_nil]
 refine pops_done (hR7 _ ?_)
 clear hR7 R7
 try simp only [thenK]
 refine hN6 _ ?_
 clear hN6 N6
 refine pwp_cond (by simp only [St.eval, upd_at, Nat.reduceEqDiff, if_true, if_false] <;> rfl) (fun c17 => ?_) (fun c17 => ?_)
 ·skip
  have h8 : 200 < cntL l ∨ 5 < deepL l := by simp only [Bool.or_eq_true, decide_eq_true_eq] at c17; omega
  have hres : chkGlob ro di l = 8 := by rw [chkGlob, if_pos h8]
  refine pwp_then fun N9 hN9 => ?_
  refine pwp_reg fun R10 hR10 => ?_
  refine pops_mv (.inr rfl) rfl (by simp only [St.eval, constSlot] <;> rfl) ?_
  refine pops_done (hR10 _ ?_)
  clear hR10 R10
  try simp only [thenK]
  refine hN9 _ ?_
  clear hN9 N9
  refine pwp_ret ?_
  simp only [thenK, bodyK]
  clear hN5 N5
  refine ⟨_, rfl, endFun s1 ?_⟩
  try simp only [upd_at, Nat.reduceEqDiff, if_true, if_false]
  all_goals
   rw [hres]
 ·skip
  have h8 : ¬ (200 < cntL l ∨ 5 < deepL l) := by simp only [Bool.or_eq_false_iff, decide_eq_false_iff_not] at c17; omega
  refine pwp_skip ?_
  try simp only [thenK]
  refine hN5 _ ?_
  clear hN5 N5
  refine pwp_then fun N11 hN11 => ?_
  refine pwp_then fun N12 hN12 => ?_
  refine pwp_reg fun R13 hR13 => ?_
  refine pops_to rfl fun M hM => ?_
  simp only [pop, St.eval, upd_at, Nat.reduceEqDiff, if_true, if_false, popFieldAddr, fieldOf, List.drop_succ_cons, List.drop_zero, List.getElem?_toArray, List.getElem?_cons_zero, List.getElem?_cons_succ, Tryd.underlying24, sz22]
  refine ⟨⟨_, rfl⟩, hM _ _ ?_⟩
  clear hM M
  refine pops_to rfl fun M hM => ?_
  simp only [pop, St.eval, upd_at, Nat.reduceEqDiff, if_true, if_false, popLoad, loadK, isAggD, Bool.false_eq_true, Tryd.underlying22, sz22, eq_self]
  refine hM _ _ ?_
  clear hM M
  refine pops_to rfl fun M hM => ?_
  simp only [pop, St.eval, constSlot, upd_at, Nat.reduceEqDiff, if_true, if_false, popCall, List.map_nil, svs, List.mapM_cons, List.mapM_nil, Option.bind_eq_bind, Option.bind_some, Option.pure_def, List.append_nil]
  refine PFun.use (checkParts_fun W0 l hl) fun h2 s2 => hM _ _ ?_
  replace s2 := Same.trans s1 s2
  clear hM M
  refine pops_mv (.inr rfl) rfl (by simp only [St.eval, upd_at, Nat.reduceEqDiff, if_true, if_false] <;> rfl) ?_
  refine pops_done (hR13 _ ?_)
  clear hR13 R13
  try simp only [thenK]
  refine hN12 _ ?_
  clear hN12 N12
  refine pwp_then fun N14 hN14 => ?_
  refine pwp_reg fun R15 hR15 => ?_
  refine pops_mv (.inl rfl) rfl (by simp only [St.eval, upd_at, Nat.reduceEqDiff, if_true, if_false] <;> rfl) ?_
  refine pops_to rfl fun M hM => ?_
  simp only [pop, St.eval, constSlot, upd_at, Nat.reduceEqDiff, if_true, if_false, popBin, binK, intK, eq_self, true_and]
  refine hM _ _ ?_
  clear hM M
  refine pops_done (hR15 _ ?_)
  clear hR15 R15
  try simp only [thenK]
  refine hN14 _ ?_
  clear hN14 N14
  refine pwp_cond (by simp only [St.eval, upd_at, Nat.reduceEqDiff, if_true, if_false] <;> rfl) (fun c22 => ?_) (fun c22 => ?_)
  ·skip
   have hc : chkL false l ≠ 0 := by simpa using c22
   have hres : chkGlob ro di l = chkL false l := by rw [chkGlob, if_neg h8, if_pos hc]
   refine pwp_then fun N16 hN16 => ?_
   refine pwp_reg fun R17 hR17 => ?_
   refine pops_mv (.inl rfl) rfl (by simp only [St.eval, upd_at, Nat.reduceEqDiff, if_true, if_false] <;> rfl) ?_
   refine pops_mv (.inr rfl) rfl (by simp only [St.eval, upd_at, Nat.reduceEqDiff, if_true, if_false] <;> rfl) ?_
   refine pops_done (hR17 _ ?_)
   clear hR17 R17
   try simp only [thenK]
   refine hN16 _ ?_
   clear hN16 N16
   refine pwp_ret ?_
   simp only [thenK, bodyK]
   clear hN11 N11
   refine ⟨_, rfl, endFun s2 ?_⟩
   try simp only [upd_at, Nat.reduceEqDiff, if_true, if_false]
   all_goals
    rw [hres]
  ·skip
   have hc : chkL false l = 0 := by simpa using c22
   refine pwp_skip ?_
   try simp only [thenK]
   refine hN11 _ ?_
   clear hN11 N11
   refine pwp_then fun N18 hN18 => ?_
   refine pwp_block ?_
   refine pwp_then fun N19 hN19 => ?_
   refine pwp_reg fun R20 hR20 => ?_
   refine pops_to rfl fun M hM => ?_
   simp only [pop, St.eval, upd_at, Nat.reduceEqDiff, if_true, if_false, popFieldAddr, fieldOf, List.drop_succ_cons, List.drop_zero, List.getElem?_toArray, List.getElem?_cons_zero, List.getElem?_cons_succ, Tryd.underlying24, sz22]
   refine ⟨⟨_, rfl⟩, hM _ _ ?_⟩
   clear hM M
   refine pops_to rfl fun M hM => ?_
   simp only [pop, St.eval, upd_at, Nat.reduceEqDiff, if_true, if_false, popLoad, loadK, isAggD, Bool.false_eq_true, Tryd.underlying22, sz22, eq_self]
   refine hM _ _ ?_
   clear hM M
   refine pops_to rfl fun M hM => ?_
   simp only [pop, St.eval, upd_at, Nat.reduceEqDiff, if_true, if_false, popCall, List.map_cons, List.map_nil, popBuiltin, popLen, lenOfSlot, Tryd.underlying22, eq_self, encL_len]
   refine hM _ _ ?_
   clear hM M
   refine pops_to rfl fun M hM => ?_
   simp only [pop, St.eval, constSlot, upd_at, Nat.reduceEqDiff, if_true, if_false, popBin, binK, intK, eq_self, true_and, lenZ0]
   refine hM _ _ ?_
   clear hM M
   refine pops_mv (.inr rfl) rfl (by simp only [St.eval, upd_at, Nat.reduceEqDiff, if_true, if_false] <;> rfl) ?_
   refine pops_done (hR20 _ ?_)
   clear hR20 R20
   try simp only [thenK]
   refine hN19 _ ?_
   clear hN19 N19
   refine pwp_cond (by simp only [St.eval, upd_at, Nat.reduceEqDiff, if_true, if_false] <;> rfl) (fun c24 => ?_) (fun c24 => ?_)
   ·skip
    have h0 : l = [] := by simpa using c24
    have hres : chkGlob ro di l = 21 := by rw [chkGlob, if_neg h8, if_neg (by rw [hc]; decide), if_pos h0]
    refine pwp_then fun N21 hN21 => ?_
    refine pwp_reg fun R22 hR22 => ?_
    refine pops_mv (.inr rfl) rfl (by simp only [St.eval, constSlot] <;> rfl) ?_
    refine pops_done (hR22 _ ?_)
    clear hR22 R22
    try simp only [thenK]
    refine hN21 _ ?_
    clear hN21 N21
    refine pwp_ret ?_
    simp only [thenK, blockK, bodyK]
    clear hN18 N18
    refine ⟨_, rfl, endFun s2 ?_⟩
    try simp only [upd_at, Nat.reduceEqDiff, if_true, if_false]
    all_goals
     rw [hres]
   ·skip
    have h0 : l ≠ [] := by simpa using c24
    refine pwp_then fun N23 hN23 => ?_
    refine pwp_reg fun R24 hR24 => ?_
    refine pops_to rfl fun M hM => ?_
    simp only [pop, St.eval, upd_at, Nat.reduceEqDiff, if_true, if_false, popFieldAddr, fieldOf, List.drop_succ_cons, List.drop_zero, List.getElem?_toArray, List.getElem?_cons_zero, List.getElem?_cons_succ, Tryd.underlying24, sz22]
    refine ⟨⟨_, rfl⟩, hM _ _ ?_⟩
    clear hM M
    refine pops_to rfl fun M hM => ?_
    simp only [pop, St.eval, upd_at, Nat.reduceEqDiff, if_true, if_false, popLoad, loadK, isAggD, Bool.false_eq_true, Tryd.underlying22, sz22, eq_self]
    refine hM _ _ ?_
    clear hM M
    refine pops_to rfl fun M hM => ?_
    simp only [pop, St.eval, constSlot, upd_at, Nat.reduceEqDiff, if_true, if_false, popCall, List.map_nil, svs, List.mapM_cons, List.mapM_nil, Option.bind_eq_bind, Option.bind_some, Option.pure_def, List.append_nil]
    refine PFun.use (starsMeet_fun W0 l hl) fun h3 s3 => hM _ _ ?_
    replace s3 := Same.trans s2 s3
    clear hM M
    refine pops_mv (.inr rfl) rfl (by simp only [St.eval, upd_at, Nat.reduceEqDiff, if_true, if_false] <;> rfl) ?_
    refine pops_done (hR24 _ ?_)
    clear hR24 R24
    try simp only [thenK]
    refine hN23 _ ?_
    clear hN23 N23
    refine pwp_cond (by simp only [St.eval, upd_at, Nat.reduceEqDiff, if_true, if_false] <;> rfl) (fun c29 => ?_) (fun c29 => ?_)
    ·skip
     have hres : chkGlob ro di l = 6 := by rw [chkGlob, if_neg h8, if_neg (by rw [hc]; decide), if_neg h0, if_pos c29]
     refine pwp_then fun N25 hN25 => ?_
     refine pwp_reg fun R26 hR26 => ?_
     refine pops_mv (.inr rfl) rfl (by simp only [St.eval, constSlot] <;> rfl) ?_
     refine pops_done (hR26 _ ?_)
     clear hR26 R26
     try simp only [thenK]
     refine hN25 _ ?_
     clear hN25 N25
     refine pwp_ret ?_
     simp only [thenK, blockK, bodyK]
     clear hN18 N18
     refine ⟨_, rfl, endFun s3 ?_⟩
     try simp only [upd_at, Nat.reduceEqDiff, if_true, if_false]
     all_goals
      rw [hres]
    ·skip
     have hst : ¬ stL false l = true := by rw [c29]; decide
     refine pwp_then fun N27 hN27 => ?_
     refine pwp_reg fun R28 hR28 => ?_
     refine pops_to rfl fun M hM => ?_
     simp only [pop, St.eval, upd_at, Nat.reduceEqDiff, if_true, if_false, List.length_cons, List.length_nil, Nat.zero_add, Nat.reduceAdd, Nat.reduceLeDiff, List.take_succ_cons, List.take_nil, popLoad, loadK, isAggD, Tryd.underlying24, sz24, eq_self, true_and]
     refine hM _ _ ?_
     clear hM M
     refine pops_to rfl fun M hM => ?_
     simp only [pop, St.eval, constSlot, upd_at, Nat.reduceEqDiff, if_true, if_false, popCall, List.map_nil, svs, List.mapM_cons, List.mapM_nil, Option.bind_eq_bind, Option.bind_some, Option.pure_def, List.append_nil]
     refine PFun.use (globText_fun W0 ro di l hl hc h0) fun h4 s4 => hM _ _ ?_
     replace s4 := Same.trans s3 s4
     clear hM M
     refine pops_to rfl fun M hM => ?_
     simp only [pop, St.eval, upd_at, Nat.reduceEqDiff, if_true, if_false, popCall, List.map_cons, List.map_nil, popBuiltin, popLen, Tryd.underlying9, eq_self, str_size]
     refine hM _ _ ?_
     clear hM M
     refine pops_to rfl fun M hM => ?_
     simp only [pop, St.eval, constSlot, upd_at, Nat.reduceEqDiff, if_true, if_false, popBin, binK, intK, eq_self, true_and]
     refine hM _ _ ?_
     clear hM M
     refine pops_mv (.inr rfl) rfl (by simp only [St.eval, upd_at, Nat.reduceEqDiff, if_true, if_false] <;> rfl) ?_
     refine pops_done (hR28 _ ?_)
     clear hR28 R28
     try simp only [thenK]
     refine hN27 _ ?_
     clear hN27 N27
     refine pwp_cond (by simp only [St.eval, upd_at, Nat.reduceEqDiff, if_true, if_false] <;> rfl) (fun c33 => ?_) (fun c33 => ?_)
     ·skip
      have hlen : 200 < (globT ro di l).length := by have := of_decide_eq_true c33; omega
      have hres : chkGlob ro di l = 8 := by rw [chkGlob, if_neg h8, if_neg (by rw [hc]; decide), if_neg h0, if_neg hst, if_pos hlen]
      refine pwp_then fun N29 hN29 => ?_
      refine pwp_reg fun R30 hR30 => ?_
      refine pops_mv (.inr rfl) rfl (by simp only [St.eval, constSlot] <;> rfl) ?_
      refine pops_done (hR30 _ ?_)
      clear hR30 R30
      try simp only [thenK]
      refine hN29 _ ?_
      clear hN29 N29
      refine pwp_ret ?_
      simp only [thenK, blockK, bodyK]
      clear hN18 N18
      refine ⟨_, rfl, endFun s4 ?_⟩
      try simp only [upd_at, Nat.reduceEqDiff, if_true, if_false]
      all_goals
       rw [hres]
     ·skip
      have hlen : ¬ 200 < (globT ro di l).length := by have := of_decide_eq_false c33; omega
      have hres : chkGlob ro di l = 0 := by rw [chkGlob, if_neg h8, if_neg (by rw [hc]; decide), if_neg h0, if_neg hst, if_neg hlen]
      refine pwp_skip ?_
      try simp only [blockK, thenK]
      try simp only [thenK, scopeK]
      refine hN18 _ ?_
      clear hN18 N18
      refine pwp_then fun N31 hN31 => ?_
      refine pwp_reg fun R32 hR32 => ?_
      refine pops_mv (.inr rfl) rfl (by simp only [St.eval, constSlot] <;> rfl) ?_
      refine pops_done (hR32 _ ?_)
      clear hR32 R32
      try simp only [thenK]
      refine hN31 _ ?_
      clear hN31 N31
      refine pwp_ret ?_
      simp only [bodyK]
      refine ⟨_, rfl, endFun s4 ?_⟩
      try simp only [upd_at, Nat.reduceEqDiff, if_true, if_false]
      all_goals
       rw [hres]
theorem nm9 : (Tryd.f9.name == "runtime.NumGoroutine") = false := by kernel_rfl
set_option maxHeartbeats 2000000 in
theorem checkGlobR_fun (W0 : World) (ro di : Bool) (l : List GPart) (hl : lW l ≤ 1048576) :
  PFun Tryd.prog W0 9 [.agg [pbool ro, pbool di, .ro false 5 (encL l)]] (.sv (.one (pint (chkGlob ro di l)))) := by
 intro h
 refine pcalls1 (n := 38) Tryd.func9 rfl nm9 rfl fun hb => ?_
 refine pwp_then fun N1 hN1 => ?_
 refine pwp_reg fun R2 hR2 => ?_
 refine pops_to rfl fun M hM => ?_
 simp only [pop, St.eval, upd_at, if_true, popBox, popBoxRo, slotCells]
 refine .inr ⟨Nat.succ_pos _, hM _ _ ?_⟩
 clear hM M
 refine pops_mv (.inr rfl) rfl (by simp only [St.eval, constSlot] <;> rfl) ?_
 refine pops_done (hR2 _ ?_)
 clear hR2 R2
 try simp only [thenK]
 refine hN1 _ ?_
 clear hN1 N1
 refine pwp_then fun N3 hN3 => ?_
 refine pwp_reg fun R4 hR4 => ?_
 refine pops_to rfl fun M hM => ?_
 simp only [pop, St.eval, upd_at, Nat.reduceEqDiff, if_true, if_false, popFieldAddr, fieldOf, List.drop_succ_cons, List.drop_zero, List.getElem?_toArray, List.getElem?_cons_zero, List.getElem?_cons_succ, Tryd.underlying24, sz22]
 refine ⟨⟨_, rfl⟩, hM _ _ ?_⟩
 clear hM M
 refine pops_to rfl fun M hM => ?_
 simp only [pop, St.eval, upd_at, Nat.reduceEqDiff, if_true, if_false, popLoad, loadK, isAggD, Bool.false_eq_true, Tryd.underlying22, sz22, eq_self]
 refine hM _ _ ?_
 clear hM M
 refine pops_to rfl fun M hM => ?_
 simp only [pop, St.eval, constSlot, upd_at, Nat.reduceEqDiff, if_true, if_false, popCall, List.map_nil, svs, List.mapM_cons, List.mapM_nil, Option.bind_eq_bind, Option.bind_some, Option.pure_def, List.append_nil]
 refine PFun.use (globSize_fun W0 l hl) fun h1 s1 => hM _ _ ?_
 replace s1 := Same.trans (Same.refl _) s1
 clear hM M
 refine pops_mv (.inl rfl) rfl (by simp only [St.eval, upd_at, Nat.reduceEqDiff, if_true, if_false] <;> rfl) ?_
 refine pops_to rfl fun M hM => ?_
 simp only [pop, St.eval, upd_at, Nat.reduceEqDiff, if_true, if_false, List.getElem?_cons_zero]
 refine hM _ _ ?_
 clear hM M
 refine pops_to rfl fun M hM => ?_
 simp only [pop, St.eval, upd_at, Nat.reduceEqDiff, if_true, if_false, List.getElem?_cons_zero, List.getElem?_cons_succ]
 refine hM _ _ ?_
 clear hM M
 refine pops_mv (.inr rfl) rfl (by simp only [St.eval, upd_at, Nat.reduceEqDiff, if_true, if_false] <;> rfl) ?_
 refine pops_mv (.inr rfl) rfl (by simp only [St.eval, upd_at, Nat.reduceEqDiff, if_true, if_false] <;> rfl) ?_
 refine pops_done (hR4 _ ?_)
 clear hR4 R4
 try simp only [thenK]
 refine hN3 _ ?_
 clear hN3 N3
 refine pwp_then fun N5 hN5 => ?_
 refine pwp_then fun N6 hN6 => ?_
 refine pwp_reg fun R7 hR7 => ?_
 refine pops_mv (.inl rfl) rfl (by simp only [St.eval, upd_at, Nat.reduceEqDiff, if_true, if_false] <;> rfl) ?_
 refine pops_to rfl fun M hM => ?_
 simp only [pop, St.eval, constSlot, upd_at, Nat.reduceEqDiff, if_true, if_false, popBin, binK, intK, eq_self, true_and]
 refine hM _ _ ?_
 clear hM M
 refine pops_mv (.inl rfl) rfl (by simp only [St.eval, upd_at, Nat.reduceEqDiff, if_true, if_false] <;> rfl) ?_
 apply pops_or0 3 14 17 [15, 16] (by simp only [upd_at, Nat.reduceEqDiff, if_true, if_false] <;> rfl)
 ·skip
  intro g14_0 J8 hJ8
  simp only [List.take_succ_cons, List.take_zero]
  simp only [anyAt_cons, anyAt_nil] at hJ8
  refine pops_mvg (.inl rfl) rfl rfl (by simp only [upd_at, Nat.reduceEqDiff, if_true, if_false, g14_0]) (by simp only [St.eval, upd_at, Nat.reduceEqDiff, if_true, if_false, g14_0] <;> rfl) ?_
  refine pops_do rfl rfl (by simp only [upd_at, Nat.reduceEqDiff, if_true, if_false, g14_0]) fun M hM => ?_
  simp only [pop, St.eval, constSlot, upd_at, Nat.reduceEqDiff, if_true, if_false, popBin, binK, intK, eq_self, true_and, g14_0]
  refine hM _ _ ?_
  clear hM M
  refine pops_to rfl fun M hM => ?_
  simp only [pop, St.eval, constSlot, upd_at, Nat.reduceEqDiff, if_true, if_false, true_implies, false_implies, Bool.false_eq_true, reduceCtorEq, true_and, g14_0]
  refine hM _ _ ?_
  clear hM M
  exact pops_done (hJ8 _ (wk_same (wk_any ((wk_any (Wk.refl _ _))))))
 ·skip
  intro g14_0 J8 hJ8
  simp only [List.take_succ_cons, List.take_zero]
  simp only [anyAt_cons, anyAt_nil] at hJ8
  refine pops_off (b := true) rfl rfl (by simp only [upd_at, Nat.reduceEqDiff, if_true, if_false, g14_0]) (by decide) ?_
  refine pops_off (b := true) rfl rfl (by simp only [upd_at, Nat.reduceEqDiff, if_true, if_false, g14_0]) (by decide) ?_
  refine pops_to rfl fun M hM => ?_
  simp only [pop, St.eval, constSlot, upd_at, Nat.reduceEqDiff, if_true, if_false, true_implies, false_implies, Bool.true_eq_false, reduceCtorEq, and_true, g14_0]
  refine hM _ _ ?_
  clear hM M
  exact pops_done (hJ8 _ (wk_same (wk_any ((wk_any (Wk.refl _ _))))))
 simp only [List.drop_succ_cons, List.drop_zero, anyAt_cons, anyAt_nil]
 refine pops_done (hR7 _ ?_)
 clear hR7 R7
 try simp only [thenK]
 refine hN6 _ ?_
 clear hN6 N6
 refine pwp_cond (by simp only [St.eval, upd_at, Nat.reduceEqDiff, if_true, if_false] <;> rfl) (fun c17 => ?_) (fun c17 => ?_)
 ·skip
  have h8 : 200 < cntL l ∨ 5 < deepL l := by simp only [Bool.or_eq_true, decide_eq_true_eq] at c17; omega
  have hres : chkGlob ro di l = 8 := by rw [chkGlob, if_pos h8]
  refine pwp_then fun N9 hN9 => ?_
  refine pwp_reg fun R10 hR10 => ?_
  refine pops_mv (.inr rfl) rfl (by simp only [St.eval, constSlot] <;> rfl) ?_
  refine pops_done (hR10 _ ?_)
  clear hR10 R10
  try simp only [thenK]
  refine hN9 _ ?_
  clear hN9 N9
  refine pwp_ret ?_
  simp only [thenK, bodyK]
  clear hN5 N5
  refine ⟨_, rfl, endFun s1 ?_⟩
  try simp only [upd_at, Nat.reduceEqDiff, if_true, if_false]
  all_goals
   rw [hres]
 ·skip
  have h8 : ¬ (200 < cntL l ∨ 5 < deepL l) := by simp only [Bool.or_eq_false_iff, decide_eq_false_iff_not] at c17; omega
  refine pwp_skip ?_
  try simp only [thenK]
  refine hN5 _ ?_
  clear hN5 N5
  refine pwp_then fun N11 hN11 => ?_
  refine pwp_then fun N12 hN12 => ?_
  refine pwp_reg fun R13 hR13 => ?_
  refine pops_to rfl fun M hM => ?_
  simp only [pop, St.eval, upd_at, Nat.reduceEqDiff, if_true, if_false, popFieldAddr, fieldOf, List.drop_succ_cons, List.drop_zero, List.getElem?_toArray, List.getElem?_cons_zero, List.getElem?_cons_succ, Tryd.underlying24, sz22]
  refine ⟨⟨_, rfl⟩, hM _ _ ?_⟩
  clear hM M
  refine pops_to rfl fun M hM => ?_
  simp only [pop, St.eval, upd_at, Nat.reduceEqDiff, if_true, if_false, popLoad, loadK, isAggD, Bool.false_eq_true, Tryd.underlying22, sz22, eq_self]
  refine hM _ _ ?_
  clear hM M
  refine pops_to rfl fun M hM => ?_
  simp only [pop, St.eval, constSlot, upd_at, Nat.reduceEqDiff, if_true, if_false, popCall, List.map_nil, svs, List.mapM_cons, List.mapM_nil, Option.bind_eq_bind, Option.bind_some, Option.pure_def, List.append_nil]
  refine PFun.use (checkPartsR_fun W0 l hl) fun h2 s2 => hM _ _ ?_
  replace s2 := Same.trans s1 s2
  clear hM M
  refine pops_mv (.inr rfl) rfl (by simp only [St.eval, upd_at, Nat.reduceEqDiff, if_true, if_false] <;> rfl) ?_
  refine pops_done (hR13 _ ?_)
  clear hR13 R13
  try simp only [thenK]
  refine hN12 _ ?_
  clear hN12 N12
  refine pwp_then fun N14 hN14 => ?_
  refine pwp_reg fun R15 hR15 => ?_
  refine pops_mv (.inl rfl) rfl (by simp only [St.eval, upd_at, Nat.reduceEqDiff, if_true, if_false] <;> rfl) ?_
  refine pops_to rfl fun M hM => ?_
  simp only [pop, St.eval, constSlot, upd_at, Nat.reduceEqDiff, if_true, if_false, popBin, binK, intK, eq_self, true_and]
  refine hM _ _ ?_
  clear hM M
  refine pops_done (hR15 _ ?_)
  clear hR15 R15
  try simp only [thenK]
  refine hN14 _ ?_
  clear hN14 N14
  refine pwp_cond (by simp only [St.eval, upd_at, Nat.reduceEqDiff, if_true, if_false] <;> rfl) (fun c22 => ?_) (fun c22 => ?_)
  ·skip
   have hc : chkL false l ≠ 0 := by simpa using c22
   have hres : chkGlob ro di l = chkL false l := by rw [chkGlob, if_neg h8, if_pos hc]
   refine pwp_then fun N16 hN16 => ?_
   refine pwp_reg fun R17 hR17 => ?_
   refine pops_mv (.inl rfl) rfl (by simp only [St.eval, upd_at, Nat.reduceEqDiff, if_true, if_false] <;> rfl) ?_
   refine pops_mv (.inr rfl) rfl (by simp only [St.eval, upd_at, Nat.reduceEqDiff, if_true, if_false] <;> rfl) ?_
   refine pops_done (hR17 _ ?_)
   clear hR17 R17
   try simp only [thenK]
   refine hN16 _ ?_
   clear hN16 N16
   refine pwp_ret ?_
   simp only [thenK, bodyK]
   clear hN11 N11
   refine ⟨_, rfl, endFun s2 ?_⟩
   try simp only [upd_at, Nat.reduceEqDiff, if_true, if_false]
   all_goals
    rw [hres]
  ·skip
   have hc : chkL false l = 0 := by simpa using c22
   refine pwp_skip ?_
   try simp only [thenK]
   refine hN11 _ ?_
   clear hN11 N11
   refine pwp_then fun N18 hN18 => ?_
   refine pwp_block ?_
   refine pwp_then fun N19 hN19 => ?_
   refine pwp_reg fun R20 hR20 => ?_
   refine pops_to rfl fun M hM => ?_
   simp only [pop, St.eval, upd_at, Nat.reduceEqDiff, if_true, if_false, popFieldAddr, fieldOf, List.drop_succ_cons, List.drop_zero, List.getElem?_toArray, List.getElem?_cons_zero, List.getElem?_cons_succ, Tryd.underlying24, sz22]
   refine ⟨⟨_, rfl⟩, hM _ _ ?_⟩
   clear hM M
   refine pops_to rfl fun M hM => ?_
   simp only [pop, St.eval, upd_at, Nat.reduceEqDiff, if_true, if_false, popLoad, loadK, isAggD, Bool.false_eq_true, Tryd.underlying22, sz22, eq_self]
   refine hM _ _ ?_
   clear hM M
   refine pops_to rfl fun M hM => ?_
   simp only [pop, St.eval, upd_at, Nat.reduceEqDiff, if_true, if_false, popCall, List.map_cons, List.map_nil, popBuiltin, popLen, lenOfSlot, Tryd.underlying22, eq_self, encL_len]
   refine hM _ _ ?_
   clear hM M
   refine pops_to rfl fun M hM => ?_
   simp only [pop, St.eval, constSlot, upd_at, Nat.reduceEqDiff, if_true, if_false, popBin, binK, intK, eq_self, true_and, lenZ0]
   refine hM _ _ ?_
   clear hM M
   refine pops_mv (.inr rfl) rfl (by simp only [St.eval, upd_at, Nat.reduceEqDiff, if_true, if_false] <;> rfl) ?_
   refine pops_done (hR20 _ ?_)
   clear hR20 R20
   try simp only [thenK]
   refine hN19 _ ?_
   clear hN19 N19
   refine pwp_cond (by simp only [St.eval, upd_at, Nat.reduceEqDiff, if_true, if_false] <;> rfl) (fun c24 => ?_) (fun c24 => ?_)
   ·skip
    have h0 : l = [] := by simpa using c24
    have hres : chkGlob ro di l = 21 := by rw [chkGlob, if_neg h8, if_neg (by rw [hc]; decide), if_pos h0]
    refine pwp_then fun N21 hN21 => ?_
    refine pwp_reg fun R22 hR22 => ?_
    refine pops_mv (.inr rfl) rfl (by simp only [St.eval, constSlot] <;> rfl) ?_
    refine pops_done (hR22 _ ?_)
    clear hR22 R22
    try simp only [thenK]
    refine hN21 _ ?_
    clear hN21 N21
    refine pwp_ret ?_
    simp only [thenK, blockK, bodyK]
    clear hN18 N18
    refine ⟨_, rfl, endFun s2 ?_⟩
    try simp only [upd_at, Nat.reduceEqDiff, if_true, if_false]
    all_goals
     rw [hres]
   ·skip
    have h0 : l ≠ [] := by simpa using c24
    refine pwp_then fun N23 hN23 => ?_
    refine pwp_reg fun R24 hR24 => ?_
    refine pops_to rfl fun M hM => ?_
    simp only [pop, St.eval, upd_at, Nat.reduceEqDiff, if_true, if_false, popFieldAddr, fieldOf, List.drop_succ_cons, List.drop_zero, List.getElem?_toArray, List.getElem?_cons_zero, List.getElem?_cons_succ, Tryd.underlying24, sz22]
    refine ⟨⟨_, rfl⟩, hM _ _ ?_⟩
    clear hM M
    refine pops_to rfl fun M hM => ?_
    simp only [pop, St.eval, upd_at, Nat.reduceEqDiff, if_true, if_false, popLoad, loadK, isAggD, Bool.false_eq_true, Tryd.underlying22, sz22, eq_self]
    refine hM _ _ ?_
    clear hM M
    refine pops_to rfl fun M hM => ?_
    simp only [pop, St.eval, constSlot, upd_at, Nat.reduceEqDiff, if_true, if_false, popCall, List.map_nil, svs, List.mapM_cons, List.mapM_nil, Option.bind_eq_bind, Option.bind_some, Option.pure_def, List.append_nil]
    refine PFun.use (starsR_fun W0 l hl) fun h3 s3 => hM _ _ ?_
    replace s3 := Same.trans s2 s3
    clear hM M
    refine pops_mv (.inr rfl) rfl (by simp only [St.eval, upd_at, Nat.reduceEqDiff, if_true, if_false] <;> rfl) ?_
    refine pops_done (hR24 _ ?_)
    clear hR24 R24
    try simp only [thenK]
    refine hN23 _ ?_
    clear hN23 N23
    refine pwp_cond (by simp only [St.eval, upd_at, Nat.reduceEqDiff, if_true, if_false] <;> rfl) (fun c29 => ?_) (fun c29 => ?_)
    ·skip
     have hres : chkGlob ro di l = 6 := by rw [chkGlob, if_neg h8, if_neg (by rw [hc]; decide), if_neg h0, if_pos c29]
     refine pwp_then fun N25 hN25 => ?_
     refine pwp_reg fun R26 hR26 => ?_
     refine pops_mv (.inr rfl) rfl (by simp only [St.eval, constSlot] <;> rfl) ?_
     refine pops_done (hR26 _ ?_)
     clear hR26 R26
     try simp only [thenK]
     refine hN25 _ ?_
     clear hN25 N25
     refine pwp_ret ?_
     simp only [thenK, blockK, bodyK]
     clear hN18 N18
     refine ⟨_, rfl, endFun s3 ?_⟩
     try simp only [upd_at, Nat.reduceEqDiff, if_true, if_false]
     all_goals
      rw [hres]
    ·skip
     have hst : ¬ stL false l = true := by rw [c29]; decide
     refine pwp_then fun N27 hN27 => ?_
     refine pwp_reg fun R28 hR28 => ?_
     refine pops_to rfl fun M hM => ?_
     simp only [pop, St.eval, upd_at, Nat.reduceEqDiff, if_true, if_false, List.length_cons, List.length_nil, Nat.zero_add, Nat.reduceAdd, Nat.reduceLeDiff, List.take_succ_cons, List.take_nil, popLoad, loadK, isAggD, Tryd.underlying24, sz24, eq_self, true_and]
     refine hM _ _ ?_
     clear hM M
     refine pops_to rfl fun M hM => ?_
     simp only [pop, St.eval, constSlot, upd_at, Nat.reduceEqDiff, if_true, if_false, popCall, List.map_nil, svs, List.mapM_cons, List.mapM_nil, Option.bind_eq_bind, Option.bind_some, Option.pure_def, List.append_nil]
     refine PFun.use (showGlob_fun W0 ro di l hl hc h0) fun h4 s4 => hM _ _ ?_
     replace s4 := Same.trans s3 s4
     clear hM M
     refine pops_to rfl fun M hM => ?_
     simp only [pop, St.eval, upd_at, Nat.reduceEqDiff, if_true, if_false, popCall, List.map_cons, List.map_nil, popBuiltin, popLen, Tryd.underlying9, eq_self, str_size]
     refine hM _ _ ?_
     clear hM M
     refine pops_to rfl fun M hM => ?_
     simp only [pop, St.eval, constSlot, upd_at, Nat.reduceEqDiff, if_true, if_false, popBin, binK, intK, eq_self, true_and]
     refine hM _ _ ?_
     clear hM M
     refine pops_mv (.inr rfl) rfl (by simp only [St.eval, upd_at, Nat.reduceEqDiff, if_true, if_false] <;> rfl) ?_
     refine pops_done (hR28 _ ?_)
     clear hR28 R28
     try simp only [thenK]
     refine hN27 _ ?_
     clear hN27 N27
     refine pwp_cond (by simp only [St.eval, upd_at, Nat.reduceEqDiff, if_true, if_false] <;> rfl) (fun c33 => ?_) (fun c33 => ?_)
     ·skip
      have hlen : 200 < (globT ro di l).length := by have := of_decide_eq_true c33; omega
      have hres : chkGlob ro di l = 8 := by rw [chkGlob, if_neg h8, if_neg (by rw [hc]; decide), if_neg h0, if_neg hst, if_pos hlen]
      refine pwp_then fun N29 hN29 => ?_
      refine pwp_reg fun R30 hR30 => ?_
      refine pops_mv (.inr rfl) rfl (by simp only [St.eval, constSlot] <;> rfl) ?_
      refine pops_done (hR30 _ ?_)
      clear hR30 R30
      try simp only [thenK]
      refine hN29 _ ?_
      clear hN29 N29
      refine pwp_ret ?_
      simp only [thenK, blockK, bodyK]
      clear hN18 N18
      refine ⟨_, rfl, endFun s4 ?_⟩
      try simp only [upd_at, Nat.reduceEqDiff, if_true, if_false]
      all_goals
       rw [hres]
     ·skip
      have hlen : ¬ 200 < (globT ro di l).length := by have := of_decide_eq_false c33; omega
      have hres : chkGlob ro di l = 0 := by rw [chkGlob, if_neg h8, if_neg (by rw [hc]; decide), if_neg h0, if_neg hst, if_neg hlen]
      refine pwp_skip ?_
      try simp only [blockK, thenK]
      try simp only [thenK, scopeK]
      refine hN18 _ ?_
      clear hN18 N18
      refine pwp_then fun N31 hN31 => ?_
      refine pwp_reg fun R32 hR32 => ?_
      refine pops_mv (.inr rfl) rfl (by simp only [St.eval, constSlot] <;> rfl) ?_
      refine pops_done (hR32 _ ?_)
      clear hR32 R32
      try simp only [thenK]
      refine hN31 _ ?_
      clear hN31 N31
      refine pwp_ret ?_
      simp only [bodyK]
      refine ⟨_, rfl, endFun s4 ?_⟩
      try simp only [upd_at, Nat.reduceEqDiff, if_true, if_false]
      all_goals
       rw [hres]
theorem nm35 : (Tryd.f35.name == "runtime.NumGoroutine") = false := by kernel_rfl
theorem checkRules_fun (W0 : World) (f : FiltG) (hw : ∀ r ∈ f.rules, lW r.parts ≤ 1048576) (hn : f.rules.length ≤ 1048576) :
  PFun Tryd.prog W0 35 [.one (.ro false 4 (f.rules.map rulePV))] (.sv (.one (pint (if 200 < f.rules.length then 8 else rulesE f.rules)))) := by
 intro h
 refine pcalls1 (n := 22) Tryd.func35 rfl nm35 rfl fun hb => ?_
 refine pwp_then fun N1 hN1 => ?_
 refine pwp_reg fun R2 hR2 => ?_
 refine pops_mv (.inr rfl) rfl (by simp only [St.eval, constSlot] <;> rfl) ?_
 refine pops_done (hR2 _ ?_)
 clear hR2 R2
 try simp only [thenK]
 refine hN1 _ ?_
 clear hN1 N1
 refine pwp_then fun N3 hN3 => ?_
 refine pwp_then fun N4 hN4 => ?_
 refine pwp_reg fun R5 hR5 => ?_
 refine pops_mv (.inl rfl) rfl (by simp only [St.eval, upd_at, Nat.reduceEqDiff, if_true, if_false] <;> rfl) ?_
 refine pops_to rfl fun M hM => ?_
 simp only [pop, St.eval, upd_at, Nat.reduceEqDiff, if_true, if_false, popCall, List.map_cons, List.map_nil, popBuiltin, popLen, lenOfSlot, List.length_map, Tryd.underlying34, eq_self, List.length_map]
 refine hM _ _ ?_
 clear hM M
 refine pops_to rfl fun M hM => ?_
 simp only [pop, St.eval, constSlot, upd_at, Nat.reduceEqDiff, if_true, if_false, popBin, binK, intK, eq_self, true_and]
 refine hM _ _ ?_
 clear hM M
 refine pops_done (hR5 _ ?_)
 clear hR5 R5
 try simp only [thenK]
 refine hN4 _ ?_
 clear hN4 N4
 refine pwp_cond (by simp only [St.eval, upd_at, Nat.reduceEqDiff, if_true, if_false] <;> rfl) (fun c8 => ?_) (fun c8 => ?_)
 ·skip
  have hbig : 200 < f.rules.length := by have := of_decide_eq_true c8; omega
  refine pwp_then fun N6 hN6 => ?_
  refine pwp_reg fun R7 hR7 => ?_
  refine pops_mv (.inr rfl) rfl (by simp only [St.eval, constSlot] <;> rfl) ?_
  refine pops_done (hR7 _ ?_)
  clear hR7 R7
  try simp only [thenK]
  refine hN6 _ ?_
  clear hN6 N6
  refine pwp_ret ?_
  simp only [thenK, bodyK]
  clear hN3 N3
  refine ⟨_, rfl, endFun (Same.refl _) ?_⟩
  try simp only [upd_at, Nat.reduceEqDiff, if_true, if_false]
  all_goals
   rw [if_pos hbig]
 ·skip
  have hbig : ¬ 200 < f.rules.length := by have := of_decide_eq_false c8; omega
  refine pwp_skip ?_
  try simp only [thenK]
  refine hN3 _ ?_
  clear hN3 N3
  refine pwp_then fun N8 hN8 => ?_
  refine pwp_then fun N9 hN9 => ?_
  refine pwp_reg fun R10 hR10 => ?_
  refine pops_mv (.inl rfl) rfl (by simp only [St.eval, upd_at, Nat.reduceEqDiff, if_true, if_false] <;> rfl) ?_
  refine pops_to rfl fun M hM => ?_
  simp only [pop, St.eval, upd_at, Nat.reduceEqDiff, if_true, if_false, popCall, List.map_cons, List.map_nil, popBuiltin, popLen, lenOfSlot, List.length_map, Tryd.underlying34, eq_self, List.length_map]
  refine hM _ _ ?_
  clear hM M
  refine pops_mv (.inl rfl) rfl (by simp only [St.eval, constSlot] <;> rfl) ?_
  refine pops_done (hR10 _ ?_)
  clear hR10 R10
  try simp only [thenK]
  refine hN9 _ ?_
  clear hN9 N9
  refine pwp_block ?_
  refine pwp_loop (fun k σ => ∃ (i : Nat), (k = f.rules.length - i) ∧ (i ≤ f.rules.length) ∧ (rulesE (f.rules.drop i) = rulesE f.rules) ∧ (Same h σ.hp) ∧ (σ.env 9 = .sv (.one (.ro false 4 (f.rules.map rulePV)))) ∧ (σ.env 10 = .sv (.one (pint (f.rules.length : Nat)))) ∧ (σ.env 11 = .sv (.one (pint (i : Nat))))) _ ⟨_, .refl _ _, 0, rfl, ?_⟩ ?_
  · exact ⟨Nat.zero_le _, rfl, (Same.refl _), by simp only [upd_at, Nat.reduceEqDiff, if_true, if_false], by first | rfl | (simp only [upd_at, Nat.reduceEqDiff, if_true, if_false]; rfl), by first | rfl | (simp only [upd_at, Nat.reduceEqDiff, if_true, if_false]; rfl)⟩
  ·rintro k ⟨e, hp0⟩ ⟨i, hk0, hx0_0, hx0_1, sl0, e0_9, e0_10, e0_11⟩
   simp only at sl0 e0_9 e0_10 e0_11
   refine pwp_then fun N11 hN11 => ?_
   refine pwp_reg fun R12 hR12 => ?_
   refine pops_to rfl fun M hM => ?_
   simp only [pop, St.eval, popBin, binK, intK, eq_self, true_and, e0_10, e0_11]
   refine hM _ _ ?_
   clear hM M
   refine pops_done (hR12 _ ?_)
   clear hR12 R12
   try simp only [thenK]
   refine hN11 _ ?_
   clear hN11 N11
   refine pwp_then fun N13 hN13 => ?_
   refine pwp_cond (by simp only [St.eval, upd_at, if_true] <;> rfl) (fun c12 => ?_) (fun c12 => ?_)
   ·skip
    have hi : i < f.rules.length := by have := of_decide_eq_true c12; omega
    obtain ⟨r, hr⟩ : ∃ r, f.rules[i]? = some r := ⟨_, List.getElem?_eq_getElem hi⟩
    have hget := rule_at hr
    have hst := rules_step hr
    rw [hx0_1] at hst
    refine pwp_skip ?_
    try simp only [thenK]
    refine hN13 _ ?_
    clear hN13 N13
    refine pwp_then fun N14 hN14 => ?_
    refine pwp_block ?_
    refine pwp_then fun N15 hN15 => ?_
    refine pwp_reg fun R16 hR16 => ?_
    refine pops_to rfl fun M hM => ?_
    simp only [pop, St.eval, upd_at, Nat.reduceEqDiff, if_false, popIndexAddr, Tryd.underlying34, sz56, eq_self, true_and, e0_9, e0_11, hget, Int.toNat_natCast]
    refine ⟨Int.natCast_nonneg _, hM _ _ ?_⟩
    clear hM M
    refine pops_to rfl fun M hM => ?_
    simp only [pop, St.eval, upd_at, Nat.reduceEqDiff, if_true, if_false, List.length_cons, List.length_nil, Nat.zero_add, Nat.reduceAdd, Nat.reduceLeDiff, List.take_succ_cons, List.take_nil, popLoad, loadK, isAggD, Tryd.underlying56, sz56, eq_self, true_and]
    refine hM _ _ ?_
    clear hM M
    refine pops_var (hpOk.same hb sl0) rfl ze56 (zs := [PV.val (.bool false), PV.val (.bool false), PV.val (.bool false), PV.val (.slice none 0 0)]) (by kernel_rfl) (by simp) (by simp only [St.eval, slotCells, upd_at, Nat.reduceEqDiff, if_true, if_false] <;> rfl) (by rfl) (by exact Nat.succ_pos _) (by rw [sz56]; rfl) (fun hv17 sv17 => ?_)
    replace sv17 := Same.trans sl0 sv17
    refine pops_done (hR16 _ ?_)
    clear hR16 R16
    try simp only [thenK]
    refine hN15 _ ?_
    clear hN15 N15
    refine pwp_then fun N18 hN18 => ?_
    refine pwp_reg fun R19 hR19 => ?_
    refine pops_to rfl fun M hM => ?_
    simp only [pop, St.eval, upd_at, Nat.reduceEqDiff, if_true, if_false, popFieldAddr, fieldOf, List.drop_succ_cons, List.drop_zero, List.getElem?_toArray, List.getElem?_cons_zero, List.getElem?_cons_succ, Tryd.underlying56, sz24]
    refine ⟨⟨_, rfl⟩, hM _ _ ?_⟩
    clear hM M
    refine pops_to rfl fun M hM => ?_
    simp only [pop, St.eval, upd_at, Nat.reduceEqDiff, if_true, if_false, List.length_cons, List.length_nil, Nat.zero_add, Nat.reduceAdd, Nat.reduceLeDiff, List.take_succ_cons, List.take_nil, popLoad, loadK, isAggD, Tryd.underlying24, sz24, eq_self, true_and]
    refine hM _ _ ?_
    clear hM M
    refine pops_to rfl fun M hM => ?_
    simp only [pop, St.eval, constSlot, upd_at, Nat.reduceEqDiff, if_true, if_false, popCall, List.map_nil, svs, List.mapM_cons, List.mapM_nil, Option.bind_eq_bind, Option.bind_some, Option.pure_def, List.append_nil]
    refine PFun.use (checkGlob_fun W0 r.ro r.di r.parts (hw r (List.mem_of_getElem? hr))) fun h1 s1 => hM _ _ ?_
    replace s1 := Same.trans sv17 s1
    clear hM M
    refine pops_mv (.inr rfl) rfl (by simp only [St.eval, upd_at, Nat.reduceEqDiff, if_true, if_false] <;> rfl) ?_
    refine pops_done (hR19 _ ?_)
    clear hR19 R19
    try simp only [thenK]
    refine hN18 _ ?_
    clear hN18 N18
    refine pwp_then fun N20 hN20 => ?_
    refine pwp_reg fun R21 hR21 => ?_
    refine pops_mv (.inl rfl) rfl (by simp only [St.eval, upd_at, Nat.reduceEqDiff, if_true, if_false] <;> rfl) ?_
    refine pops_to rfl fun M hM => ?_
    simp only [pop, St.eval, constSlot, upd_at, Nat.reduceEqDiff, if_true, if_false, popBin, binK, intK, eq_self, true_and]
    refine hM _ _ ?_
    clear hM M
    refine pops_done (hR21 _ ?_)
    clear hR21 R21
    try simp only [thenK]
    refine hN20 _ ?_
    clear hN20 N20
    refine pwp_cond (by simp only [St.eval, upd_at, Nat.reduceEqDiff, if_true, if_false] <;> rfl) (fun c19 => ?_) (fun c19 => ?_)
    ·skip
     have hne : chkGlob r.ro r.di r.parts ≠ 0 := by simpa using c19
     rw [if_pos hne] at hst
     refine pwp_then fun N22 hN22 => ?_
     refine pwp_reg fun R23 hR23 => ?_
     refine pops_mv (.inl rfl) rfl (by simp only [St.eval, upd_at, Nat.reduceEqDiff, if_true, if_false] <;> rfl) ?_
     refine pops_mv (.inr rfl) rfl (by simp only [St.eval, upd_at, Nat.reduceEqDiff, if_true, if_false] <;> rfl) ?_
     refine pops_done (hR23 _ ?_)
     clear hR23 R23
     try simp only [thenK]
     refine hN22 _ ?_
     clear hN22 N22
     refine pwp_ret ?_
     simp only [thenK, blockK, bodyK]
     clear hN14 N14 hN8 N8
     refine ⟨_, rfl, endFun s1 ?_⟩
     try simp only [upd_at, Nat.reduceEqDiff, if_true, if_false]
     all_goals
      rw [if_neg hbig, hst]
    ·skip
     have hne : ¬ chkGlob r.ro r.di r.parts ≠ 0 := by simpa using c19
     rw [if_neg hne] at hst
     refine pwp_skip ?_
     try simp only [blockK, thenK]
     try simp only [thenK, scopeK]
     refine hN14 _ ?_
     clear hN14 N14
     refine pwp_reg fun R24 hR24 => ?_
     refine pops_to rfl fun M hM => ?_
     simp only [pop, St.eval, constSlot, upd_at, Nat.reduceEqDiff, if_false, popBin, binK, intK, eq_self, true_and, e0_11]
     refine hM _ _ ?_
     clear hM M
     refine pops_mv (.inl rfl) rfl (by simp only [St.eval, upd_at, Nat.reduceEqDiff, if_true, if_false] <;> rfl) ?_
     refine pops_done (hR24 _ ?_)
     clear hR24 R24
     try simp only [thenK]
     exact ⟨_, by omega, _, .refl _ _, i + 1, rfl, by omega, hst.symm, s1, by simp only [upd_at, Nat.reduceEqDiff, if_false, e0_9], by simp only [upd_at, Nat.reduceEqDiff, if_false, e0_10], by simp only [upd_at, Nat.reduceEqDiff, if_true, if_false, e0_11]; rw [wrap_succ (by omega)]⟩
   ·skip
    obtain rfl : i = f.rules.length := by have := of_decide_eq_false c12; omega
    rw [List.drop_length, rulesE] at hx0_1
    refine pwp_exit ?_
    try simp only [thenK, blockK, if_true]
    clear hN13 N13
    try simp only [blockK, scopeK, if_true, Nat.reduceEqDiff, if_false, thenK]
    try simp only [thenK, scopeK]
    refine hN8 _ ?_
    clear hN8 N8
    refine pwp_then fun N25 hN25 => ?_
    refine pwp_reg fun R26 hR26 => ?_
    refine pops_mv (.inr rfl) rfl (by simp only [St.eval, constSlot] <;> rfl) ?_
    refine pops_done (hR26 _ ?_)
    clear hR26 R26
    try simp only [thenK]
    refine hN25 _ ?_
    clear hN25 N25
    refine pwp_ret ?_
    simp only [bodyK]
    refine ⟨_, rfl, endFun sl0 ?_⟩
    try simp only [upd_at, Nat.reduceEqDiff, if_true, if_false]
    all_goals
     rw [if_neg hbig, ← hx0_1]
theorem nm36 : (Tryd.f36.name == "runtime.NumGoroutine") = false := by kernel_rfl
theorem limit_fun (W0 : World) (m l : Int) :
  PFun Tryd.prog W0 36 [.one (pint m), .one (pint l)] (.sv (.one (pbool (limB m l)))) := by
 intro h
 refine pcalls2 (n := 16) Tryd.func36 rfl nm36 rfl fun hb => ?_
 refine pwp_then fun N1 hN1 => ?_
 refine pwp_reg fun R2 hR2 => ?_
 refine pops_mv (.inr rfl) rfl (by simp only [St.eval, constSlot] <;> rfl) ?_
 refine pops_done (hR2 _ ?_)
 clear hR2 R2
 try simp only [thenK]
 refine hN1 _ ?_
 clear hN1 N1
 refine pwp_then fun N3 hN3 => ?_
 refine pwp_reg fun R4 hR4 => ?_
 refine pops_mv (.inl rfl) rfl (by simp only [St.eval, upd_at, Nat.reduceEqDiff, if_true, if_false] <;> rfl) ?_
 refine pops_to rfl fun M hM => ?_
 simp only [pop, St.eval, constSlot, upd_at, Nat.reduceEqDiff, if_true, if_false, popBin, binK, intK, eq_self, true_and]
 refine hM _ _ ?_
 clear hM M
 refine pops_mv (.inl rfl) rfl (by simp only [St.eval, upd_at, Nat.reduceEqDiff, if_true, if_false] <;> rfl) ?_
 apply pops_or0 8 7 15 [8, 9, 10, 11, 12, 13, 14] (by simp only [upd_at, Nat.reduceEqDiff, if_true, if_false] <;> rfl)
 ·skip
  intro g7_0 J5 hJ5
  simp only [List.take_succ_cons, List.take_zero]
  simp only [anyAt_cons, anyAt_nil] at hJ5
  refine pops_mvg (.inl rfl) rfl rfl (by simp only [upd_at, Nat.reduceEqDiff, if_true, if_false, g7_0]) (by simp only [St.eval, upd_at, Nat.reduceEqDiff, if_true, if_false, g7_0] <;> rfl) ?_
  refine pops_do rfl rfl (by simp only [upd_at, Nat.reduceEqDiff, if_true, if_false, g7_0]) fun M hM => ?_
  simp only [pop, St.eval, constSlot, upd_at, Nat.reduceEqDiff, if_true, if_false, popBin, binK, intK, eq_self, true_and, g7_0]
  refine hM _ _ ?_
  clear hM M
  refine pops_mvg (.inl rfl) rfl rfl (by simp only [upd_at, Nat.reduceEqDiff, if_true, if_false, g7_0]) (by simp only [St.eval, upd_at, Nat.reduceEqDiff, if_true, if_false, g7_0] <;> rfl) ?_
  apply pops_and0 4 10 14 [11, 12, 13] (by simp only [upd_at, Nat.reduceEqDiff, if_true, if_false, g7_0] <;> rfl)
  ·skip
   intro g10_1 J6 hJ6
   simp only [List.take_succ_cons, List.take_zero]
   simp only [anyAt_cons, anyAt_nil] at hJ6
   refine pops_mvg (.inl rfl) rfl rfl (by simp only [upd_at, Nat.reduceEqDiff, if_true, if_false, g7_0, g10_1]) (by simp only [St.eval, upd_at, Nat.reduceEqDiff, if_true, if_false, g7_0, g10_1] <;> rfl) ?_
   refine pops_mvg (.inl rfl) rfl rfl (by simp only [upd_at, Nat.reduceEqDiff, if_true, if_false, g7_0, g10_1]) (by simp only [St.eval, upd_at, Nat.reduceEqDiff, if_true, if_false, g7_0, g10_1] <;> rfl) ?_
   refine pops_do rfl rfl (by simp only [upd_at, Nat.reduceEqDiff, if_true, if_false, g7_0, g10_1]) fun M hM => ?_
   simp only [pop, St.eval, upd_at, Nat.reduceEqDiff, if_true, if_false, popBin, binK, intK, eq_self, true_and, g7_0, g10_1]
   refine hM _ _ ?_
   clear hM M
   refine pops_do rfl rfl (by simp only [upd_at, Nat.reduceEqDiff, if_true, if_false, g7_0, g10_1]) fun M hM => ?_
   simp only [pop, St.eval, constSlot, upd_at, Nat.reduceEqDiff, if_true, if_false, true_implies, false_implies, Bool.true_eq_false, reduceCtorEq, and_true, g7_0, g10_1]
   refine hM _ _ ?_
   clear hM M
   exact pops_done (hJ6 _ (wk_same (wk_any ((wk_any ((wk_any (Wk.refl _ _))))))))
  ·skip
   intro g10_1 J6 hJ6
   simp only [List.take_succ_cons, List.take_zero]
   simp only [anyAt_cons, anyAt_nil] at hJ6
   refine pops_off (b := false) rfl rfl (by simp only [upd_at, Nat.reduceEqDiff, if_true, if_false, g7_0, g10_1]) (by decide) ?_
   refine pops_off (b := false) rfl rfl (by simp only [upd_at, Nat.reduceEqDiff, if_true, if_false, g7_0, g10_1]) (by decide) ?_
   refine pops_off (b := false) rfl rfl (by simp only [upd_at, Nat.reduceEqDiff, if_true, if_false, g7_0, g10_1]) (by decide) ?_
   refine pops_do rfl rfl (by simp only [upd_at, Nat.reduceEqDiff, if_true, if_false, g7_0, g10_1]) fun M hM => ?_
   simp only [pop, St.eval, constSlot, upd_at, Nat.reduceEqDiff, if_true, if_false, true_implies, false_implies, Bool.false_eq_true, reduceCtorEq, true_and, g7_0, g10_1]
   refine hM _ _ ?_
   clear hM M
   exact pops_done (hJ6 _ (wk_same (wk_any ((wk_any ((wk_any (Wk.refl _ _))))))))
  simp only [List.drop_succ_cons, List.drop_zero, anyAt_cons, anyAt_nil]
  refine pops_to rfl fun M hM => ?_
  simp only [pop, St.eval, constSlot, upd_at, Nat.reduceEqDiff, if_true, if_false, true_implies, false_implies, Bool.false_eq_true, reduceCtorEq, true_and, g7_0]
  refine hM _ _ ?_
  clear hM M
  exact pops_done (hJ5 _ (wk_same (wk_any ((wk_any ((wk_any ((wk_any ((wk_any ((wk_any ((wk_any (Wk.refl _ _))))))))))))))))
 ·skip
  intro g7_0 J5 hJ5
  simp only [List.take_succ_cons, List.take_zero]
  simp only [anyAt_cons, anyAt_nil] at hJ5
  refine pops_off (b := true) rfl rfl (by simp only [upd_at, Nat.reduceEqDiff, if_true, if_false, g7_0]) (by decide) ?_
  refine pops_off (b := true) rfl rfl (by simp only [upd_at, Nat.reduceEqDiff, if_true, if_false, g7_0]) (by decide) ?_
  refine pops_off (b := true) rfl rfl (by simp only [upd_at, Nat.reduceEqDiff, if_true, if_false, g7_0]) (by decide) ?_
  refine pops_off0 rfl rfl (by simp only [upd_at, Nat.reduceEqDiff, if_true, if_false, g7_0]) ?_
  refine pops_off0 rfl rfl (by simp only [upd_at, Nat.reduceEqDiff, if_true, if_false, g7_0]) ?_
  refine pops_off0 rfl rfl (by simp only [upd_at, Nat.reduceEqDiff, if_true, if_false, g7_0]) ?_
  refine pops_off (b := true) rfl rfl (by simp only [upd_at, Nat.reduceEqDiff, if_true, if_false, g7_0]) (by decide) ?_
  refine pops_to rfl fun M hM => ?_
  simp only [pop, St.eval, constSlot, upd_at, Nat.reduceEqDiff, if_true, if_false, true_implies, false_implies, Bool.true_eq_false, reduceCtorEq, and_true, g7_0]
  refine hM _ _ ?_
  clear hM M
  exact pops_done (hJ5 _ (wk_same (wk_any ((wk_any ((wk_any ((wk_any ((wk_any ((wk_any ((wk_any (Wk.refl _ _))))))))))))))))
 simp only [List.drop_succ_cons, List.drop_zero, anyAt_cons, anyAt_nil]
 refine pops_mv (.inr rfl) rfl (by simp only [St.eval, upd_at, Nat.reduceEqDiff, if_true, if_false] <;> rfl) ?_
 refine pops_done (hR4 _ ?_)
 clear hR4 R4
 try simp only [thenK]
 refine hN3 _ ?_
 clear hN3 N3
 refine pwp_ret ?_
 simp only [bodyK]
 refine ⟨_, rfl, endFun (Same.refl _) ?_⟩
 try simp only [upd_at, Nat.reduceEqDiff, if_true, if_false]
 all_goals
  rfl
theorem nm18 : (Tryd.f18.name == "runtime.NumGoroutine") = false := by kernel_rfl
set_option maxHeartbeats 2000000 in
theorem checkFilter_fun (W0 : World) (f : FiltG) (hw : ∀ r ∈ f.rules, lW r.parts ≤ 1048576) (hn : f.rules.length ≤ 1048576) :
  PFun Tryd.prog W0 18 [.agg (filtPV f)] (.sv (.one (pint (filtE f)))) := by
 intro h
 refine pcalls1 (n := 40) Tryd.func18 rfl nm18 rfl fun hb => ?_
 refine pwp_then fun N1 hN1 => ?_
 refine pwp_reg fun R2 hR2 => ?_
 refine pops_to rfl fun M hM => ?_
 simp only [pop, St.eval, upd_at, if_true, popBox, popBoxRo, slotCells, filtPV]
 refine .inr ⟨Nat.succ_pos _, hM _ _ ?_⟩
 clear hM M
 refine pops_mv (.inr rfl) rfl (by simp only [St.eval, constSlot] <;> rfl) ?_
 refine pops_done (hR2 _ ?_)
 clear hR2 R2
 try simp only [thenK]
 refine hN1 _ ?_
 clear hN1 N1
 refine pwp_then fun N3 hN3 => ?_
 refine pwp_then fun N4 hN4 => ?_
 refine pwp_reg fun R5 hR5 => ?_
 refine pops_to rfl fun M hM => ?_
 simp only [pop, St.eval, upd_at, Nat.reduceEqDiff, if_true, if_false, popFieldAddr, fieldOf, List.drop_zero, List.getElem?_toArray, List.getElem?_cons_zero, Tryd.underlying36, sz34, filtPV]
 refine ⟨⟨_, rfl⟩, hM _ _ ?_⟩
 clear hM M
 refine pops_to rfl fun M hM => ?_
 simp only [pop, St.eval, upd_at, Nat.reduceEqDiff, if_true, if_false, popLoad, loadK, isAggD, Bool.false_eq_true, Tryd.underlying34, sz34, eq_self, filtPV]
 refine hM _ _ ?_
 clear hM M
 refine pops_to rfl fun M hM => ?_
 simp only [pop, St.eval, constSlot, upd_at, Nat.reduceEqDiff, if_true, if_false, popCall, List.map_nil, svs, List.mapM_cons, List.mapM_nil, Option.bind_eq_bind, Option.bind_some, Option.pure_def, List.append_nil, filtPV]
 refine PFun.use (checkRules_fun W0 f hw hn) fun h1 s1 => hM _ _ ?_
 replace s1 := Same.trans (Same.refl _) s1
 clear hM M
 refine pops_mv (.inr rfl) rfl (by simp only [St.eval, upd_at, Nat.reduceEqDiff, if_true, if_false, filtPV] <;> rfl) ?_
 refine pops_done (hR5 _ ?_)
 clear hR5 R5
 try simp only [thenK]
 refine hN4 _ ?_
 clear hN4 N4
 refine pwp_then fun N6 hN6 => ?_
 refine pwp_reg fun R7 hR7 => ?_
 refine pops_mv (.inl rfl) rfl (by simp only [St.eval, upd_at, Nat.reduceEqDiff, if_true, if_false, filtPV] <;> rfl) ?_
 refine pops_to rfl fun M hM => ?_
 simp only [pop, St.eval, constSlot, upd_at, Nat.reduceEqDiff, if_true, if_false, popBin, binK, intK, eq_self, true_and, filtPV]
 refine hM _ _ ?_
 clear hM M
 refine pops_done (hR7 _ ?_)
 clear hR7 R7
 try simp only [thenK]
 refine hN6 _ ?_
 clear hN6 N6
 refine pwp_cond (by simp only [St.eval, upd_at, Nat.reduceEqDiff, if_true, if_false, filtPV] <;> rfl) (fun c9 => ?_) (fun c9 => ?_)
 ·skip
  have hne : (if 200 < f.rules.length then 8 else rulesE f.rules) ≠ 0 := by simpa using c9
  have hres : filtE f = (if 200 < f.rules.length then 8 else rulesE f.rules) := by
    unfold filtE
    split
    · rfl
    · rename_i h9
      rw [if_neg h9] at hne
      rw [if_pos hne]
  refine pwp_then fun N8 hN8 => ?_
  refine pwp_reg fun R9 hR9 => ?_
  refine pops_mv (.inl rfl) rfl (by simp only [St.eval, upd_at, Nat.reduceEqDiff, if_true, if_false, filtPV] <;> rfl) ?_
  refine pops_mv (.inr rfl) rfl (by simp only [St.eval, upd_at, Nat.reduceEqDiff, if_true, if_false, filtPV] <;> rfl) ?_
  refine pops_done (hR9 _ ?_)
  clear hR9 R9
  try simp only [thenK]
  refine hN8 _ ?_
  clear hN8 N8
  refine pwp_ret ?_
  simp only [thenK, bodyK]
  clear hN3 N3
  refine ⟨_, rfl, endFun s1 ?_⟩
  try simp only [upd_at, Nat.reduceEqDiff, if_true, if_false, filtPV]
  all_goals
   rw [hres]
 ·skip
  have hne : ¬ (if 200 < f.rules.length then 8 else rulesE f.rules) ≠ 0 := by simpa using c9
  have hbig : ¬ 200 < f.rules.length := by
    intro h9
    rw [if_pos h9] at hne
    exact hne (by decide)
  rw [if_neg hbig] at hne
  refine pwp_skip ?_
  try simp only [thenK]
  refine hN3 _ ?_
  clear hN3 N3
  refine pwp_then fun N10 hN10 => ?_
  refine pwp_reg fun R11 hR11 => ?_
  refine pops_mv (.inr rfl) rfl (by simp only [St.eval] <;> rfl) ?_
  refine pops_done (hR11 _ ?_)
  clear hR11 R11
  try simp only [thenK]
  refine hN10 _ ?_
  clear hN10 N10
  refine pwp_then fun N12 hN12 => ?_
  refine pwp_then fun N13 hN13 => ?_
  refine pwp_reg fun R14 hR14 => ?_
  refine pops_to rfl fun M hM => ?_
  simp only [pop, St.eval, upd_at, Nat.reduceEqDiff, if_true, if_false, popFieldAddr, fieldOf, List.drop_succ_cons, List.drop_zero, List.getElem?_toArray, List.getElem?_cons_zero, List.getElem?_cons_succ, Tryd.underlying36, sz3, filtPV]
  refine ⟨⟨_, rfl⟩, hM _ _ ?_⟩
  clear hM M
  refine pops_to rfl fun M hM => ?_
  simp only [pop, St.eval, upd_at, Nat.reduceEqDiff, if_true, if_false, popLoad, loadK, isAggD, Bool.false_eq_true, Tryd.underlying3, sz3, eq_self, filtPV]
  refine hM _ _ ?_
  clear hM M
  refine pops_to rfl fun M hM => ?_
  simp only [pop, St.eval, constSlot, upd_at, Nat.reduceEqDiff, if_true, if_false, popBin, binK, intK, eq_self, true_and, filtPV]
  refine hM _ _ ?_
  clear hM M
  refine pops_mv (.inl rfl) rfl (by simp only [St.eval, upd_at, Nat.reduceEqDiff, if_true, if_false, filtPV] <;> rfl) ?_
  apply pops_or0 4 14 18 [15, 16, 17] (by simp only [upd_at, Nat.reduceEqDiff, if_true, if_false, filtPV] <;> rfl)
  ·skip
   intro g14_0 J15 hJ15
   simp only [List.take_succ_cons, List.take_zero]
   simp only [anyAt_cons, anyAt_nil] at hJ15
   refine pops_do rfl rfl (by simp only [upd_at, Nat.reduceEqDiff, if_true, if_false, filtPV, g14_0]) fun M hM => ?_
   simp only [pop, St.eval, upd_at, Nat.reduceEqDiff, if_true, if_false, popFieldAddr, fieldOf, List.drop_succ_cons, List.drop_zero, List.getElem?_toArray, List.getElem?_cons_zero, List.getElem?_cons_succ, Tryd.underlying36, sz3, filtPV, g14_0]
   refine ⟨⟨_, rfl⟩, hM _ _ ?_⟩
   clear hM M
   refine pops_do rfl rfl (by simp only [upd_at, Nat.reduceEqDiff, if_true, if_false, filtPV, g14_0]) fun M hM => ?_
   simp only [pop, St.eval, upd_at, Nat.reduceEqDiff, if_true, if_false, popLoad, loadK, isAggD, Bool.false_eq_true, Tryd.underlying3, sz3, eq_self, filtPV, g14_0]
   refine hM _ _ ?_
   clear hM M
   refine pops_do rfl rfl (by simp only [upd_at, Nat.reduceEqDiff, if_true, if_false, filtPV, g14_0]) fun M hM => ?_
   simp only [pop, St.eval, constSlot, upd_at, Nat.reduceEqDiff, if_true, if_false, popBin, binK, intK, eq_self, true_and, filtPV, g14_0]
   refine hM _ _ ?_
   clear hM M
   refine pops_to rfl fun M hM => ?_
   simp only [pop, St.eval, constSlot, upd_at, Nat.reduceEqDiff, if_true, if_false, true_implies, false_implies, Bool.false_eq_true, reduceCtorEq, true_and, filtPV, g14_0]
   refine hM _ _ ?_
   clear hM M
   exact pops_done (hJ15 _ (wk_same (wk_any ((wk_any ((wk_any (Wk.refl _ _))))))))
  ·skip
   intro g14_0 J15 hJ15
   simp only [List.take_succ_cons, List.take_zero]
   simp only [anyAt_cons, anyAt_nil] at hJ15
   refine pops_off (b := true) rfl rfl (by simp only [upd_at, Nat.reduceEqDiff, if_true, if_false, filtPV, g14_0]) (by decide) ?_
   refine pops_off (b := true) rfl rfl (by simp only [upd_at, Nat.reduceEqDiff, if_true, if_false, filtPV, g14_0]) (by decide) ?_
   refine pops_off (b := true) rfl rfl (by simp only [upd_at, Nat.reduceEqDiff, if_true, if_false, filtPV, g14_0]) (by decide) ?_
   refine pops_to rfl fun M hM => ?_
   simp only [pop, St.eval, constSlot, upd_at, Nat.reduceEqDiff, if_true, if_false, true_implies, false_implies, Bool.true_eq_false, reduceCtorEq, and_true, filtPV, g14_0]
   refine hM _ _ ?_
   clear hM M
   exact pops_done (hJ15 _ (wk_same (wk_any ((wk_any ((wk_any (Wk.refl _ _))))))))
  simp only [List.drop_succ_cons, List.drop_zero, anyAt_cons, anyAt_nil]
  refine pops_mv (.inl rfl) rfl (by simp only [St.eval, upd_at, Nat.reduceEqDiff, if_true, if_false, filtPV] <;> rfl) ?_
  apply pops_or0 4 19 23 [20, 21, 22] (by simp only [upd_at, Nat.reduceEqDiff, if_true, if_false, filtPV] <;> rfl)
  ·skip
   intro g19_0 J16 hJ16
   simp only [List.take_succ_cons, List.take_zero]
   simp only [anyAt_cons, anyAt_nil] at hJ16
   refine pops_do rfl rfl (by simp only [upd_at, Nat.reduceEqDiff, if_true, if_false, filtPV, g19_0]) fun M hM => ?_
   simp only [pop, St.eval, upd_at, Nat.reduceEqDiff, if_true, if_false, popFieldAddr, fieldOf, List.drop_succ_cons, List.drop_zero, List.getElem?_toArray, List.getElem?_cons_zero, List.getElem?_cons_succ, Tryd.underlying36, sz3, filtPV, g19_0]
   refine ⟨⟨_, rfl⟩, hM _ _ ?_⟩
   clear hM M
   refine pops_do rfl rfl (by simp only [upd_at, Nat.reduceEqDiff, if_true, if_false, filtPV, g19_0]) fun M hM => ?_
   simp only [pop, St.eval, upd_at, Nat.reduceEqDiff, if_true, if_false, popLoad, loadK, isAggD, Bool.false_eq_true, Tryd.underlying3, sz3, eq_self, filtPV, g19_0]
   refine hM _ _ ?_
   clear hM M
   refine pops_do rfl rfl (by simp only [upd_at, Nat.reduceEqDiff, if_true, if_false, filtPV, g19_0]) fun M hM => ?_
   simp only [pop, St.eval, constSlot, upd_at, Nat.reduceEqDiff, if_true, if_false, popBin, binK, intK, eq_self, true_and, filtPV, g19_0]
   refine hM _ _ ?_
   clear hM M
   refine pops_to rfl fun M hM => ?_
   simp only [pop, St.eval, constSlot, upd_at, Nat.reduceEqDiff, if_true, if_false, true_implies, false_implies, Bool.false_eq_true, reduceCtorEq, true_and, filtPV, g19_0]
   refine hM _ _ ?_
   clear hM M
   exact pops_done (hJ16 _ (wk_same (wk_any ((wk_any ((wk_any (Wk.refl _ _))))))))
  ·skip
   intro g19_0 J16 hJ16
   simp only [List.take_succ_cons, List.take_zero]
   simp only [anyAt_cons, anyAt_nil] at hJ16
   refine pops_off (b := true) rfl rfl (by simp only [upd_at, Nat.reduceEqDiff, if_true, if_false, filtPV, g19_0]) (by decide) ?_
   refine pops_off (b := true) rfl rfl (by simp only [upd_at, Nat.reduceEqDiff, if_true, if_false, filtPV, g19_0]) (by decide) ?_
   refine pops_off (b := true) rfl rfl (by simp only [upd_at, Nat.reduceEqDiff, if_true, if_false, filtPV, g19_0]) (by decide) ?_
   refine pops_to rfl fun M hM => ?_
   simp only [pop, St.eval, constSlot, upd_at, Nat.reduceEqDiff, if_true, if_false, true_implies, false_implies, Bool.true_eq_false, reduceCtorEq, and_true, filtPV, g19_0]
   refine hM _ _ ?_
   clear hM M
   exact pops_done (hJ16 _ (wk_same (wk_any ((wk_any ((wk_any (Wk.refl _ _))))))))
  simp only [List.drop_succ_cons, List.drop_zero, anyAt_cons, anyAt_nil]
  refine pops_mv (.inl rfl) rfl (by simp only [St.eval, upd_at, Nat.reduceEqDiff, if_true, if_false, filtPV] <;> rfl) ?_
  apply pops_or 7 24 31 [25, 26, 27, 28, 29, 30] (by simp only [upd_at, Nat.reduceEqDiff, if_true, if_false, filtPV] <;> rfl)
  ·skip
   intro g24_0 J17 hJ17
   simp only [List.take_succ_cons, List.take_zero]
   simp only [anyAt_cons, anyAt_nil] at hJ17
   refine pops_mvg (.inl rfl) rfl rfl (by simp only [upd_at, Nat.reduceEqDiff, if_true, if_false, filtPV, g24_0]) (by simp only [St.eval, upd_at, Nat.reduceEqDiff, if_true, if_false, filtPV, g24_0] <;> rfl) ?_
   refine pops_do rfl rfl (by simp only [upd_at, Nat.reduceEqDiff, if_true, if_false, filtPV, g24_0]) fun M hM => ?_
   simp only [pop, St.eval, upd_at, Nat.reduceEqDiff, if_true, if_false, popFieldAddr, fieldOf, List.drop_succ_cons, List.drop_zero, List.getElem?_toArray, List.getElem?_cons_zero, List.getElem?_cons_succ, Tryd.underlying36, sz3, filtPV, g24_0]
   refine ⟨⟨_, rfl⟩, hM _ _ ?_⟩
   clear hM M
   refine pops_do rfl rfl (by simp only [upd_at, Nat.reduceEqDiff, if_true, if_false, filtPV, g24_0]) fun M hM => ?_
   simp only [pop, St.eval, upd_at, Nat.reduceEqDiff, if_true, if_false, popLoad, loadK, isAggD, Bool.false_eq_true, Tryd.underlying3, sz3, eq_self, filtPV, g24_0]
   refine hM _ _ ?_
   clear hM M
   refine pops_do rfl rfl (by simp only [upd_at, Nat.reduceEqDiff, if_true, if_false, filtPV, g24_0]) fun M hM => ?_
   simp only [pop, St.eval, upd_at, Nat.reduceEqDiff, if_true, if_false, popFieldAddr, fieldOf, List.drop_succ_cons, List.drop_zero, List.getElem?_toArray, List.getElem?_cons_zero, List.getElem?_cons_succ, Tryd.underlying36, sz3, filtPV, g24_0]
   refine ⟨⟨_, rfl⟩, hM _ _ ?_⟩
   clear hM M
   refine pops_do rfl rfl (by simp only [upd_at, Nat.reduceEqDiff, if_true, if_false, filtPV, g24_0]) fun M hM => ?_
   simp only [pop, St.eval, upd_at, Nat.reduceEqDiff, if_true, if_false, popLoad, loadK, isAggD, Bool.false_eq_true, Tryd.underlying3, sz3, eq_self, filtPV, g24_0]
   refine hM _ _ ?_
   clear hM M
   refine pops_do rfl rfl (by simp only [upd_at, Nat.reduceEqDiff, if_true, if_false, filtPV, g24_0]) fun M hM => ?_
   simp only [pop, St.eval, constSlot, upd_at, Nat.reduceEqDiff, if_true, if_false, popCall, List.map_nil, svs, List.mapM_cons, List.mapM_nil, Option.bind_eq_bind, Option.bind_some, Option.pure_def, List.append_nil, filtPV, g24_0]
   refine PFun.use (limit_fun W0 f.maxS f.minS) fun h2 s2 => hM _ _ ?_
   replace s2 := Same.trans (Same.refl _) s2
   clear hM M
   refine pops_to rfl fun M hM => ?_
   simp only [pop, St.eval, constSlot, upd_at, Nat.reduceEqDiff, if_true, if_false, true_implies, false_implies, Bool.false_eq_true, reduceCtorEq, true_and, filtPV, g24_0]
   refine hM _ _ ?_
   clear hM M
   exact pops_done (hJ17 _ _ s2 (wk_same (wk_any ((wk_any ((wk_any ((wk_any ((wk_any ((wk_any (Wk.refl _ _))))))))))))))
  ·skip
   intro g24_0 J17 hJ17
   simp only [List.take_succ_cons, List.take_zero]
   simp only [anyAt_cons, anyAt_nil] at hJ17
   refine pops_off (b := true) rfl rfl (by simp only [upd_at, Nat.reduceEqDiff, if_true, if_false, filtPV, g24_0]) (by decide) ?_
   refine pops_off (b := true) rfl rfl (by simp only [upd_at, Nat.reduceEqDiff, if_true, if_false, filtPV, g24_0]) (by decide) ?_
   refine pops_off (b := true) rfl rfl (by simp only [upd_at, Nat.reduceEqDiff, if_true, if_false, filtPV, g24_0]) (by decide) ?_
   refine pops_off (b := true) rfl rfl (by simp only [upd_at, Nat.reduceEqDiff, if_true, if_false, filtPV, g24_0]) (by decide) ?_
   refine pops_off (b := true) rfl rfl (by simp only [upd_at, Nat.reduceEqDiff, if_true, if_false, filtPV, g24_0]) (by decide) ?_
   refine pops_off (b := true) rfl rfl (by simp only [upd_at, Nat.reduceEqDiff, if_true, if_false, filtPV, g24_0]) (by decide) ?_
   refine pops_to rfl fun M hM => ?_
   simp only [pop, St.eval, constSlot, upd_at, Nat.reduceEqDiff, if_true, if_false, true_implies, false_implies, Bool.true_eq_false, reduceCtorEq, and_true, filtPV, g24_0]
   refine hM _ _ ?_
   clear hM M
   exact pops_done (hJ17 _ _ (Same.refl _) (wk_same (wk_any ((wk_any ((wk_any ((wk_any ((wk_any ((wk_any (Wk.refl _ _))))))))))))))
  simp only [List.drop_succ_cons, List.drop_zero, anyAt_cons, anyAt_nil]
  intro hj17 sj17
  replace sj17 := Same.trans s1 sj17
  refine pops_mv (.inl rfl) rfl (by simp only [St.eval, upd_at, Nat.reduceEqDiff, if_true, if_false, filtPV] <;> rfl) ?_
  apply pops_or 7 32 39 [33, 34, 35, 36, 37, 38] (by simp only [upd_at, Nat.reduceEqDiff, if_true, if_false, filtPV] <;> rfl)
  ·skip
   intro g32_0 J18 hJ18
   simp only [List.take_succ_cons, List.take_zero]
   simp only [anyAt_cons, anyAt_nil] at hJ18
   refine pops_mvg (.inl rfl) rfl rfl (by simp only [upd_at, Nat.reduceEqDiff, if_true, if_false, filtPV, g32_0]) (by simp only [St.eval, upd_at, Nat.reduceEqDiff, if_true, if_false, filtPV, g32_0] <;> rfl) ?_
   refine pops_do rfl rfl (by simp only [upd_at, Nat.reduceEqDiff, if_true, if_false, filtPV, g32_0]) fun M hM => ?_
   simp only [pop, St.eval, upd_at, Nat.reduceEqDiff, if_true, if_false, popFieldAddr, fieldOf, List.drop_succ_cons, List.drop_zero, List.getElem?_toArray, List.getElem?_cons_zero, List.getElem?_cons_succ, Tryd.underlying36, sz3, filtPV, g32_0]
   refine ⟨⟨_, rfl⟩, hM _ _ ?_⟩
   clear hM M
   refine pops_do rfl rfl (by simp only [upd_at, Nat.reduceEqDiff, if_true, if_false, filtPV, g32_0]) fun M hM => ?_
   simp only [pop, St.eval, upd_at, Nat.reduceEqDiff, if_true, if_false, popLoad, loadK, isAggD, Bool.false_eq_true, Tryd.underlying3, sz3, eq_self, filtPV, g32_0]
   refine hM _ _ ?_
   clear hM M
   refine pops_do rfl rfl (by simp only [upd_at, Nat.reduceEqDiff, if_true, if_false, filtPV, g32_0]) fun M hM => ?_
   simp only [pop, St.eval, upd_at, Nat.reduceEqDiff, if_true, if_false, popFieldAddr, fieldOf, List.drop_succ_cons, List.drop_zero, List.getElem?_toArray, List.getElem?_cons_zero, List.getElem?_cons_succ, Tryd.underlying36, sz3, filtPV, g32_0]
   refine ⟨⟨_, rfl⟩, hM _ _ ?_⟩
   clear hM M
   refine pops_do rfl rfl (by simp only [upd_at, Nat.reduceEqDiff, if_true, if_false, filtPV, g32_0]) fun M hM => ?_
   simp only [pop, St.eval, upd_at, Nat.reduceEqDiff, if_true, if_false, popLoad, loadK, isAggD, Bool.false_eq_true, Tryd.underlying3, sz3, eq_self, filtPV, g32_0]
   refine hM _ _ ?_
   clear hM M
   refine pops_do rfl rfl (by simp only [upd_at, Nat.reduceEqDiff, if_true, if_false, filtPV, g32_0]) fun M hM => ?_
   simp only [pop, St.eval, constSlot, upd_at, Nat.reduceEqDiff, if_true, if_false, popCall, List.map_nil, svs, List.mapM_cons, List.mapM_nil, Option.bind_eq_bind, Option.bind_some, Option.pure_def, List.append_nil, filtPV, g32_0]
   refine PFun.use (limit_fun W0 f.maxA f.minA) fun h3 s3 => hM _ _ ?_
   replace s3 := Same.trans (Same.refl _) s3
   clear hM M
   refine pops_to rfl fun M hM => ?_
   simp only [pop, St.eval, constSlot, upd_at, Nat.reduceEqDiff, if_true, if_false, true_implies, false_implies, Bool.false_eq_true, reduceCtorEq, true_and, filtPV, g32_0]
   refine hM _ _ ?_
   clear hM M
   exact pops_done (hJ18 _ _ s3 (wk_same (wk_any ((wk_any ((wk_any ((wk_any ((wk_any ((wk_any (Wk.refl _ _))))))))))))))
  ·skip
   intro g32_0 J18 hJ18
   simp only [List.take_succ_cons, List.take_zero]
   simp only [anyAt_cons, anyAt_nil] at hJ18
   refine pops_off (b := true) rfl rfl (by simp only [upd_at, Nat.reduceEqDiff, if_true, if_false, filtPV, g32_0]) (by decide) ?_
   refine pops_off (b := true) rfl rfl (by simp only [upd_at, Nat.reduceEqDiff, if_true, if_false, filtPV, g32_0]) (by decide) ?_
   refine pops_off (b := true) rfl rfl (by simp only [upd_at, Nat.reduceEqDiff, if_true, if_false, filtPV, g32_0]) (by decide) ?_
   refine pops_off (b := true) rfl rfl (by simp only [upd_at, Nat.reduceEqDiff, if_true, if_false, filtPV, g32_0]) (by decide) ?_
   refine pops_off (b := true) rfl rfl (by simp only [upd_at, Nat.reduceEqDiff, if_true, if_false, filtPV, g32_0]) (by decide) ?_
   refine pops_off (b := true) rfl rfl (by simp only [upd_at, Nat.reduceEqDiff, if_true, if_false, filtPV, g32_0]) (by decide) ?_
   refine pops_to rfl fun M hM => ?_
   simp only [pop, St.eval, constSlot, upd_at, Nat.reduceEqDiff, if_true, if_false, true_implies, false_implies, Bool.true_eq_false, reduceCtorEq, and_true, filtPV, g32_0]
   refine hM _ _ ?_
   clear hM M
   exact pops_done (hJ18 _ _ (Same.refl _) (wk_same (wk_any ((wk_any ((wk_any ((wk_any ((wk_any ((wk_any (Wk.refl _ _))))))))))))))
  simp only [List.drop_succ_cons, List.drop_zero, anyAt_cons, anyAt_nil]
  intro hj18 sj18
  replace sj18 := Same.trans sj17 sj18
  refine pops_done (hR14 _ ?_)
  clear hR14 R14
  try simp only [thenK]
  refine hN13 _ ?_
  clear hN13 N13
  refine pwp_cond (by simp only [St.eval, upd_at, Nat.reduceEqDiff, if_true, if_false, filtPV] <;> rfl) (fun c39 => ?_) (fun c39 => ?_)
  ·skip
   have hb : rngF f = true := c39
   have hres : filtE f = 7 := by rw [filtE, if_neg hbig, if_neg hne, if_pos hb]
   refine pwp_then fun N19 hN19 => ?_
   refine pwp_reg fun R20 hR20 => ?_
   refine pops_mv (.inr rfl) rfl (by simp only [St.eval, constSlot] <;> rfl) ?_
   refine pops_done (hR20 _ ?_)
   clear hR20 R20
   try simp only [thenK]
   refine hN19 _ ?_
   clear hN19 N19
   refine pwp_ret ?_
   simp only [thenK, bodyK]
   clear hN12 N12
   refine ⟨_, rfl, endFun sj18 ?_⟩
   try simp only [upd_at, Nat.reduceEqDiff, if_true, if_false, filtPV]
   all_goals
    rw [hres]
  ·skip
   have hb : rngF f = false := c39
   have hres : filtE f = 0 := by rw [filtE, if_neg hbig, if_neg hne, if_neg (by rw [hb]; decide)]
   refine pwp_skip ?_
   try simp only [thenK]
   refine hN12 _ ?_
   clear hN12 N12
   refine pwp_then fun N21 hN21 => ?_
   refine pwp_reg fun R22 hR22 => ?_
   refine pops_mv (.inr rfl) rfl (by simp only [St.eval, constSlot] <;> rfl) ?_
   refine pops_done (hR22 _ ?_)
   clear hR22 R22
   try simp only [thenK]
   refine hN21 _ ?_
   clear hN21 N21
   refine pwp_ret ?_
   simp only [bodyK]
   refine ⟨_, rfl, endFun sj18 ?_⟩
   try simp only [upd_at, Nat.reduceEqDiff, if_true, if_false, filtPV]
   all_goals
    rw [hres]
theorem nm17 : (Tryd.f17.name == "runtime.NumGoroutine") = false := by kernel_rfl
set_option maxHeartbeats 2000000 in
theorem checkFilterR_fun (W0 : World) (f : FiltG) (hw : ∀ r ∈ f.rules, lW r.parts ≤ 1048576) (hn : f.rules.length ≤ 1048576) :
  PFun Tryd.prog W0 17 [.agg (filtPV f)] (.sv (.one (pint (filtE f)))) := by
 intro h
 refine pcalls1 (n := 71) Tryd.func17 rfl nm17 rfl fun hb => ?_
 refine pwp_then fun N1 hN1 => ?_
 refine pwp_reg fun R2 hR2 => ?_
 refine pops_to rfl fun M hM => ?_
 simp only [pop, St.eval, upd_at, if_true, popBox, popBoxRo, slotCells, filtPV]
 refine .inr ⟨Nat.succ_pos _, hM _ _ ?_⟩
 clear hM M
 refine pops_mv (.inr rfl) rfl (by simp only [St.eval, constSlot] <;> rfl) ?_
 refine pops_done (hR2 _ ?_)
 clear hR2 R2
 try simp only [thenK]
 refine hN1 _ ?_
 clear hN1 N1
 refine pwp_then fun N3 hN3 => ?_
 refine pwp_then fun N4 hN4 => ?_
 refine pwp_reg fun R5 hR5 => ?_
 refine pops_to rfl fun M hM => ?_
 simp only [pop, St.eval, upd_at, Nat.reduceEqDiff, if_true, if_false, popFieldAddr, fieldOf, List.drop_zero, List.getElem?_toArray, List.getElem?_cons_zero, Tryd.underlying36, sz34, filtPV]
 refine ⟨⟨_, rfl⟩, hM _ _ ?_⟩
 clear hM M
 refine pops_to rfl fun M hM => ?_
 simp only [pop, St.eval, upd_at, Nat.reduceEqDiff, if_true, if_false, popLoad, loadK, isAggD, Bool.false_eq_true, Tryd.underlying34, sz34, eq_self, filtPV]
 refine hM _ _ ?_
 clear hM M
 refine pops_to rfl fun M hM => ?_
 simp only [pop, St.eval, upd_at, Nat.reduceEqDiff, if_true, if_false, popCall, List.map_cons, List.map_nil, popBuiltin, popLen, lenOfSlot, List.length_map, Tryd.underlying34, eq_self, filtPV, List.length_map]
 refine hM _ _ ?_
 clear hM M
 refine pops_to rfl fun M hM => ?_
 simp only [pop, St.eval, constSlot, upd_at, Nat.reduceEqDiff, if_true, if_false, popBin, binK, intK, eq_self, true_and, filtPV]
 refine hM _ _ ?_
 clear hM M
 refine pops_done (hR5 _ ?_)
 clear hR5 R5
 try simp only [thenK]
 refine hN4 _ ?_
 clear hN4 N4
 refine pwp_cond (by simp only [St.eval, upd_at, Nat.reduceEqDiff, if_true, if_false, filtPV] <;> rfl) (fun c9 => ?_) (fun c9 => ?_)
 ·skip
  have hbig : 200 < f.rules.length := by have := of_decide_eq_true c9; omega
  have hres : filtE f = 8 := by rw [filtE, if_pos hbig]
  refine pwp_then fun N6 hN6 => ?_
  refine pwp_reg fun R7 hR7 => ?_
  refine pops_mv (.inr rfl) rfl (by simp only [St.eval, constSlot] <;> rfl) ?_
  refine pops_done (hR7 _ ?_)
  clear hR7 R7
  try simp only [thenK]
  refine hN6 _ ?_
  clear hN6 N6
  refine pwp_ret ?_
  simp only [thenK, bodyK]
  clear hN3 N3
  refine ⟨_, rfl, endFun (Same.refl _) ?_⟩
  try simp only [upd_at, Nat.reduceEqDiff, if_true, if_false, filtPV]
  all_goals
   rw [hres]
 ·skip
  have hbig : ¬ 200 < f.rules.length := by have := of_decide_eq_false c9; omega
  refine pwp_skip ?_
  try simp only [thenK]
  refine hN3 _ ?_
  clear hN3 N3
  refine pwp_then fun N8 hN8 => ?_
  refine pwp_then fun N9 hN9 => ?_
  refine pwp_reg fun R10 hR10 => ?_
  refine pops_to rfl fun M hM => ?_
  simp only [pop, St.eval, upd_at, Nat.reduceEqDiff, if_true, if_false, popFieldAddr, fieldOf, List.drop_zero, List.getElem?_toArray, List.getElem?_cons_zero, Tryd.underlying36, sz34, filtPV]
  refine ⟨⟨_, rfl⟩, hM _ _ ?_⟩
  clear hM M
  refine pops_to rfl fun M hM => ?_
  simp only [pop, St.eval, upd_at, Nat.reduceEqDiff, if_true, if_false, popLoad, loadK, isAggD, Bool.false_eq_true, Tryd.underlying34, sz34, eq_self, filtPV]
  refine hM _ _ ?_
  clear hM M
  refine pops_to rfl fun M hM => ?_
  simp only [pop, St.eval, upd_at, Nat.reduceEqDiff, if_true, if_false, popCall, List.map_cons, List.map_nil, popBuiltin, popLen, lenOfSlot, List.length_map, Tryd.underlying34, eq_self, filtPV, List.length_map]
  refine hM _ _ ?_
  clear hM M
  refine pops_mv (.inl rfl) rfl (by simp only [St.eval, constSlot] <;> rfl) ?_
  refine pops_done (hR10 _ ?_)
  clear hR10 R10
  try simp only [thenK]
  refine hN9 _ ?_
  clear hN9 N9
  refine pwp_block ?_
  refine pwp_loop (fun k σ => ∃ (i : Nat), (k = f.rules.length - i) ∧ (i ≤ f.rules.length) ∧ (rulesE (f.rules.drop i) = rulesE f.rules) ∧ (Same h σ.hp) ∧ (σ.env 1 = .sv (.one (.rop (filtPV f)))) ∧ (σ.env 11 = .sv (.one (.ro false 4 (f.rules.map rulePV)))) ∧ (σ.env 12 = .sv (.one (pint (f.rules.length : Nat)))) ∧ (σ.env 13 = .sv (.one (pint (i : Nat))))) _ ⟨_, .refl _ _, 0, rfl, ?_⟩ ?_
  · exact ⟨Nat.zero_le _, rfl, (Same.refl _), by simp only [upd_at, Nat.reduceEqDiff, if_true, if_false, filtPV], by simp only [upd_at, Nat.reduceEqDiff, if_true, if_false, filtPV], by first | rfl | (simp only [upd_at, Nat.reduceEqDiff, if_true, if_false]; rfl), by first | rfl | (simp only [upd_at, Nat.reduceEqDiff, if_true, if_false]; rfl)⟩
  ·rintro k ⟨e, hp0⟩ ⟨i, hk0, hx0_0, hx0_1, sl0, e0_1, e0_11, e0_12, e0_13⟩
   simp only at sl0 e0_1 e0_11 e0_12 e0_13
   refine pwp_then fun N11 hN11 => ?_
   refine pwp_reg fun R12 hR12 => ?_
   refine pops_to rfl fun M hM => ?_
   simp only [pop, St.eval, popBin, binK, intK, eq_self, true_and, e0_12, e0_13]
   refine hM _ _ ?_
   clear hM M
   refine pops_done (hR12 _ ?_)
   clear hR12 R12
   try simp only [thenK]
   refine hN11 _ ?_
   clear hN11 N11
   refine pwp_then fun N13 hN13 => ?_
   refine pwp_cond (by simp only [St.eval, upd_at, if_true] <;> rfl) (fun c14 => ?_) (fun c14 => ?_)
   ·skip
    have hi : i < f.rules.length := by have := of_decide_eq_true c14; omega
    obtain ⟨r, hr⟩ : ∃ r, f.rules[i]? = some r := ⟨_, List.getElem?_eq_getElem hi⟩
    have hget := rule_at hr
    have hst := rules_step hr
    rw [hx0_1] at hst
    refine pwp_skip ?_
    try simp only [thenK]
    refine hN13 _ ?_
    clear hN13 N13
    refine pwp_then fun N14 hN14 => ?_
    refine pwp_block ?_
    refine pwp_then fun N15 hN15 => ?_
    refine pwp_reg fun R16 hR16 => ?_
    refine pops_to rfl fun M hM => ?_
    simp only [pop, St.eval, upd_at, Nat.reduceEqDiff, if_false, popIndexAddr, Tryd.underlying34, sz56, eq_self, true_and, e0_11, e0_13, hget, Int.toNat_natCast]
    refine ⟨Int.natCast_nonneg _, hM _ _ ?_⟩
    clear hM M
    refine pops_to rfl fun M hM => ?_
    simp only [pop, St.eval, upd_at, Nat.reduceEqDiff, if_true, if_false, List.length_cons, List.length_nil, Nat.zero_add, Nat.reduceAdd, Nat.reduceLeDiff, List.take_succ_cons, List.take_nil, popLoad, loadK, isAggD, Tryd.underlying56, sz56, eq_self, true_and]
    refine hM _ _ ?_
    clear hM M
    refine pops_var (hpOk.same hb sl0) rfl ze56 (zs := [PV.val (.bool false), PV.val (.bool false), PV.val (.bool false), PV.val (.slice none 0 0)]) (by kernel_rfl) (by simp) (by simp only [St.eval, slotCells, upd_at, Nat.reduceEqDiff, if_true, if_false] <;> rfl) (by rfl) (by exact Nat.succ_pos _) (by rw [sz56]; rfl) (fun hv17 sv17 => ?_)
    replace sv17 := Same.trans sl0 sv17
    refine pops_done (hR16 _ ?_)
    clear hR16 R16
    try simp only [thenK]
    refine hN15 _ ?_
    clear hN15 N15
    refine pwp_then fun N18 hN18 => ?_
    refine pwp_reg fun R19 hR19 => ?_
    refine pops_to rfl fun M hM => ?_
    simp only [pop, St.eval, upd_at, Nat.reduceEqDiff, if_true, if_false, popFieldAddr, fieldOf, List.drop_succ_cons, List.drop_zero, List.getElem?_toArray, List.getElem?_cons_zero, List.getElem?_cons_succ, Tryd.underlying56, sz24]
    refine ⟨⟨_, rfl⟩, hM _ _ ?_⟩
    clear hM M
    refine pops_to rfl fun M hM => ?_
    simp only [pop, St.eval, upd_at, Nat.reduceEqDiff, if_true, if_false, List.length_cons, List.length_nil, Nat.zero_add, Nat.reduceAdd, Nat.reduceLeDiff, List.take_succ_cons, List.take_nil, popLoad, loadK, isAggD, Tryd.underlying24, sz24, eq_self, true_and]
    refine hM _ _ ?_
    clear hM M
    refine pops_to rfl fun M hM => ?_
    simp only [pop, St.eval, constSlot, upd_at, Nat.reduceEqDiff, if_true, if_false, popCall, List.map_nil, svs, List.mapM_cons, List.mapM_nil, Option.bind_eq_bind, Option.bind_some, Option.pure_def, List.append_nil]
    refine PFun.use (checkGlobR_fun W0 r.ro r.di r.parts (hw r (List.mem_of_getElem? hr))) fun h1 s1 => hM _ _ ?_
    replace s1 := Same.trans sv17 s1
    clear hM M
    refine pops_mv (.inr rfl) rfl (by simp only [St.eval, upd_at, Nat.reduceEqDiff, if_true, if_false] <;> rfl) ?_
    refine pops_done (hR19 _ ?_)
    clear hR19 R19
    try simp only [thenK]
    refine hN18 _ ?_
    clear hN18 N18
    refine pwp_then fun N20 hN20 => ?_
    refine pwp_reg fun R21 hR21 => ?_
    refine pops_mv (.inl rfl) rfl (by simp only [St.eval, upd_at, Nat.reduceEqDiff, if_true, if_false] <;> rfl) ?_
    refine pops_to rfl fun M hM => ?_
    simp only [pop, St.eval, constSlot, upd_at, Nat.reduceEqDiff, if_true, if_false, popBin, binK, intK, eq_self, true_and]
    refine hM _ _ ?_
    clear hM M
    refine pops_done (hR21 _ ?_)
    clear hR21 R21
    try simp only [thenK]
    refine hN20 _ ?_
    clear hN20 N20
    refine pwp_cond (by simp only [St.eval, upd_at, Nat.reduceEqDiff, if_true, if_false] <;> rfl) (fun c21 => ?_) (fun c21 => ?_)
    ·skip
     have hne : chkGlob r.ro r.di r.parts ≠ 0 := by simpa using c21
     rw [if_pos hne] at hst
     have hres : filtE f = chkGlob r.ro r.di r.parts := by rw [filtE, if_neg hbig, hst, if_pos hne]
     refine pwp_then fun N22 hN22 => ?_
     refine pwp_reg fun R23 hR23 => ?_
     refine pops_mv (.inl rfl) rfl (by simp only [St.eval, upd_at, Nat.reduceEqDiff, if_true, if_false] <;> rfl) ?_
     refine pops_mv (.inr rfl) rfl (by simp only [St.eval, upd_at, Nat.reduceEqDiff, if_true, if_false] <;> rfl) ?_
     refine pops_done (hR23 _ ?_)
     clear hR23 R23
     try simp only [thenK]
     refine hN22 _ ?_
     clear hN22 N22
     refine pwp_ret ?_
     simp only [thenK, blockK, bodyK]
     clear hN14 N14 hN8 N8
     refine ⟨_, rfl, endFun s1 ?_⟩
     try simp only [upd_at, Nat.reduceEqDiff, if_true, if_false]
     all_goals
      rw [hres]
    ·skip
     have hne : ¬ chkGlob r.ro r.di r.parts ≠ 0 := by simpa using c21
     rw [if_neg hne] at hst
     refine pwp_skip ?_
     try simp only [blockK, thenK]
     try simp only [thenK, scopeK]
     refine hN14 _ ?_
     clear hN14 N14
     refine pwp_reg fun R24 hR24 => ?_
     refine pops_to rfl fun M hM => ?_
     simp only [pop, St.eval, constSlot, upd_at, Nat.reduceEqDiff, if_false, popBin, binK, intK, eq_self, true_and, e0_13]
     refine hM _ _ ?_
     clear hM M
     refine pops_mv (.inl rfl) rfl (by simp only [St.eval, upd_at, Nat.reduceEqDiff, if_true, if_false] <;> rfl) ?_
     refine pops_done (hR24 _ ?_)
     clear hR24 R24
     try simp only [thenK]
     exact ⟨_, by omega, _, .refl _ _, i + 1, rfl, by omega, hst.symm, s1, by simp only [upd_at, Nat.reduceEqDiff, if_false, e0_1, filtPV], by simp only [upd_at, Nat.reduceEqDiff, if_false, e0_11], by simp only [upd_at, Nat.reduceEqDiff, if_false, e0_12], by simp only [upd_at, Nat.reduceEqDiff, if_true, if_false, e0_13]; rw [wrap_succ (by omega)]⟩
   ·skip
    obtain rfl : i = f.rules.length := by have := of_decide_eq_false c14; omega
    rw [List.drop_length, rulesE] at hx0_1
    refine pwp_exit ?_
    try simp only [thenK, blockK, if_true]
    clear hN13 N13
    try simp only [blockK, scopeK, if_true, Nat.reduceEqDiff, if_false, thenK]
    try simp only [thenK, scopeK]
    refine hN8 _ ?_
    clear hN8 N8
    refine pwp_then fun N25 hN25 => ?_
    refine pwp_then fun N26 hN26 => ?_
    refine pwp_reg fun R27 hR27 => ?_
    refine pops_to rfl fun M hM => ?_
    simp only [pop, St.eval, upd_at, Nat.reduceEqDiff, if_false, popFieldAddr, fieldOf, List.drop_succ_cons, List.drop_zero, List.getElem?_toArray, List.getElem?_cons_zero, List.getElem?_cons_succ, Tryd.underlying36, sz3, e0_1, filtPV]
    refine ⟨⟨_, rfl⟩, hM _ _ ?_⟩
    clear hM M
    refine pops_to rfl fun M hM => ?_
    simp only [pop, St.eval, upd_at, Nat.reduceEqDiff, if_true, if_false, popLoad, loadK, isAggD, Bool.false_eq_true, Tryd.underlying3, sz3, eq_self]
    refine hM _ _ ?_
    clear hM M
    refine pops_to rfl fun M hM => ?_
    simp only [pop, St.eval, constSlot, upd_at, Nat.reduceEqDiff, if_true, if_false, popBin, binK, intK, eq_self, true_and]
    refine hM _ _ ?_
    clear hM M
    refine pops_mv (.inl rfl) rfl (by simp only [St.eval, upd_at, Nat.reduceEqDiff, if_true, if_false] <;> rfl) ?_
    apply pops_or0 4 27 31 [28, 29, 30] (by simp only [upd_at, Nat.reduceEqDiff, if_true, if_false] <;> rfl)
    ·skip
     intro g27_0 J28 hJ28
     simp only [List.take_succ_cons, List.take_zero]
     simp only [anyAt_cons, anyAt_nil] at hJ28
     refine pops_do rfl rfl (by simp only [upd_at, Nat.reduceEqDiff, if_true, if_false, g27_0]) fun M hM => ?_
     simp only [pop, St.eval, upd_at, Nat.reduceEqDiff, if_false, popFieldAddr, fieldOf, List.drop_succ_cons, List.drop_zero, List.getElem?_toArray, List.getElem?_cons_zero, List.getElem?_cons_succ, Tryd.underlying36, sz3, e0_1, filtPV, g27_0]
     refine ⟨⟨_, rfl⟩, hM _ _ ?_⟩
     clear hM M
     refine pops_do rfl rfl (by simp only [upd_at, Nat.reduceEqDiff, if_true, if_false, g27_0]) fun M hM => ?_
     simp only [pop, St.eval, upd_at, Nat.reduceEqDiff, if_true, if_false, popLoad, loadK, isAggD, Bool.false_eq_true, Tryd.underlying3, sz3, eq_self, g27_0]
     refine hM _ _ ?_
     clear hM M
     refine pops_do rfl rfl (by simp only [upd_at, Nat.reduceEqDiff, if_true, if_false, g27_0]) fun M hM => ?_
     simp only [pop, St.eval, constSlot, upd_at, Nat.reduceEqDiff, if_true, if_false, popBin, binK, intK, eq_self, true_and, g27_0]
     refine hM _ _ ?_
     clear hM M
     refine pops_to rfl fun M hM => ?_
     simp only [pop, St.eval, constSlot, upd_at, Nat.reduceEqDiff, if_true, if_false, true_implies, false_implies, Bool.false_eq_true, true_and, g27_0]
     refine hM _ _ ?_
     clear hM M
     exact pops_done (hJ28 _ (wk_same (wk_any ((wk_any ((wk_any (Wk.refl _ _))))))))
    ·skip
     intro g27_0 J28 hJ28
     simp only [List.take_succ_cons, List.take_zero]
     simp only [anyAt_cons, anyAt_nil] at hJ28
     refine pops_off (b := true) rfl rfl (by simp only [upd_at, Nat.reduceEqDiff, if_true, if_false, g27_0]) (by decide) ?_
     refine pops_off (b := true) rfl rfl (by simp only [upd_at, Nat.reduceEqDiff, if_true, if_false, g27_0]) (by decide) ?_
     refine pops_off (b := true) rfl rfl (by simp only [upd_at, Nat.reduceEqDiff, if_true, if_false, g27_0]) (by decide) ?_
     refine pops_to rfl fun M hM => ?_
     simp only [pop, St.eval, constSlot, upd_at, Nat.reduceEqDiff, if_true, if_false, true_implies, false_implies, Bool.true_eq_false, and_true, g27_0]
     refine hM _ _ ?_
     clear hM M
     exact pops_done (hJ28 _ (wk_same (wk_any ((wk_any ((wk_any (Wk.refl _ _))))))))
    simp only [List.drop_succ_cons, List.drop_zero, anyAt_cons, anyAt_nil]
    refine pops_mv (.inl rfl) rfl (by simp only [St.eval, upd_at, Nat.reduceEqDiff, if_true, if_false] <;> rfl) ?_
    apply pops_or0 4 32 36 [33, 34, 35] (by simp only [upd_at, Nat.reduceEqDiff, if_true, if_false] <;> rfl)
    ·skip
     intro g32_0 J29 hJ29
     simp only [List.take_succ_cons, List.take_zero]
     simp only [anyAt_cons, anyAt_nil] at hJ29
     refine pops_do rfl rfl (by simp only [upd_at, Nat.reduceEqDiff, if_true, if_false, g32_0]) fun M hM => ?_
     simp only [pop, St.eval, upd_at, Nat.reduceEqDiff, if_false, popFieldAddr, fieldOf, List.drop_succ_cons, List.drop_zero, List.getElem?_toArray, List.getElem?_cons_zero, List.getElem?_cons_succ, Tryd.underlying36, sz3, e0_1, filtPV, g32_0]
     refine ⟨⟨_, rfl⟩, hM _ _ ?_⟩
     clear hM M
     refine pops_do rfl rfl (by simp only [upd_at, Nat.reduceEqDiff, if_true, if_false, g32_0]) fun M hM => ?_
     simp only [pop, St.eval, upd_at, Nat.reduceEqDiff, if_true, if_false, popLoad, loadK, isAggD, Bool.false_eq_true, Tryd.underlying3, sz3, eq_self, g32_0]
     refine hM _ _ ?_
     clear hM M
     refine pops_do rfl rfl (by simp only [upd_at, Nat.reduceEqDiff, if_true, if_false, g32_0]) fun M hM => ?_
     simp only [pop, St.eval, constSlot, upd_at, Nat.reduceEqDiff, if_true, if_false, popBin, binK, intK, eq_self, true_and, g32_0]
     refine hM _ _ ?_
     clear hM M
     refine pops_to rfl fun M hM => ?_
     simp only [pop, St.eval, constSlot, upd_at, Nat.reduceEqDiff, if_true, if_false, true_implies, false_implies, Bool.false_eq_true, true_and, g32_0]
     refine hM _ _ ?_
     clear hM M
     exact pops_done (hJ29 _ (wk_same (wk_any ((wk_any ((wk_any (Wk.refl _ _))))))))
    ·skip
     intro g32_0 J29 hJ29
     simp only [List.take_succ_cons, List.take_zero]
     simp only [anyAt_cons, anyAt_nil] at hJ29
     refine pops_off (b := true) rfl rfl (by simp only [upd_at, Nat.reduceEqDiff, if_true, if_false, g32_0]) (by decide) ?_
     refine pops_off (b := true) rfl rfl (by simp only [upd_at, Nat.reduceEqDiff, if_true, if_false, g32_0]) (by decide) ?_
     refine pops_off (b := true) rfl rfl (by simp only [upd_at, Nat.reduceEqDiff, if_true, if_false, g32_0]) (by decide) ?_
     refine pops_to rfl fun M hM => ?_
     simp only [pop, St.eval, constSlot, upd_at, Nat.reduceEqDiff, if_true, if_false, true_implies, false_implies, Bool.true_eq_false, and_true, g32_0]
     refine hM _ _ ?_
     clear hM M
     exact pops_done (hJ29 _ (wk_same (wk_any ((wk_any ((wk_any (Wk.refl _ _))))))))
    simp only [List.drop_succ_cons, List.drop_zero, anyAt_cons, anyAt_nil]
    refine pops_mv (.inl rfl) rfl (by simp only [St.eval, upd_at, Nat.reduceEqDiff, if_true, if_false] <;> rfl) ?_
    apply pops_or0 4 37 41 [38, 39, 40] (by simp only [upd_at, Nat.reduceEqDiff, if_true, if_false] <;> rfl)
    ·skip
     intro g37_0 J30 hJ30
     simp only [List.take_succ_cons, List.take_zero]
     simp only [anyAt_cons, anyAt_nil] at hJ30
     refine pops_do rfl rfl (by simp only [upd_at, Nat.reduceEqDiff, if_true, if_false, g37_0]) fun M hM => ?_
     simp only [pop, St.eval, upd_at, Nat.reduceEqDiff, if_false, popFieldAddr, fieldOf, List.drop_succ_cons, List.drop_zero, List.getElem?_toArray, List.getElem?_cons_zero, List.getElem?_cons_succ, Tryd.underlying36, sz3, e0_1, filtPV, g37_0]
     refine ⟨⟨_, rfl⟩, hM _ _ ?_⟩
     clear hM M
     refine pops_do rfl rfl (by simp only [upd_at, Nat.reduceEqDiff, if_true, if_false, g37_0]) fun M hM => ?_
     simp only [pop, St.eval, upd_at, Nat.reduceEqDiff, if_true, if_false, popLoad, loadK, isAggD, Bool.false_eq_true, Tryd.underlying3, sz3, eq_self, g37_0]
     refine hM _ _ ?_
     clear hM M
     refine pops_do rfl rfl (by simp only [upd_at, Nat.reduceEqDiff, if_true, if_false, g37_0]) fun M hM => ?_
     simp only [pop, St.eval, constSlot, upd_at, Nat.reduceEqDiff, if_true, if_false, popBin, binK, intK, eq_self, true_and, g37_0]
     refine hM _ _ ?_
     clear hM M
     refine pops_to rfl fun M hM => ?_
     simp only [pop, St.eval, constSlot, upd_at, Nat.reduceEqDiff, if_true, if_false, true_implies, false_implies, Bool.false_eq_true, true_and, g37_0]
     refine hM _ _ ?_
     clear hM M
     exact pops_done (hJ30 _ (wk_same (wk_any ((wk_any ((wk_any (Wk.refl _ _))))))))
    ·skip
     intro g37_0 J30 hJ30
     simp only [List.take_succ_cons, List.take_zero]
     simp only [anyAt_cons, anyAt_nil] at hJ30
     refine pops_off (b := true) rfl rfl (by simp only [upd_at, Nat.reduceEqDiff, if_true, if_false, g37_0]) (by decide) ?_
     refine pops_off (b := true) rfl rfl (by simp only [upd_at, Nat.reduceEqDiff, if_true, if_false, g37_0]) (by decide) ?_
     refine pops_off (b := true) rfl rfl (by simp only [upd_at, Nat.reduceEqDiff, if_true, if_false, g37_0]) (by decide) ?_
     refine pops_to rfl fun M hM => ?_
     simp only [pop, St.eval, constSlot, upd_at, Nat.reduceEqDiff, if_true, if_false, true_implies, false_implies, Bool.true_eq_false, and_true, g37_0]
     refine hM _ _ ?_
     clear hM M
     exact pops_done (hJ30 _ (wk_same (wk_any ((wk_any ((wk_any (Wk.refl _ _))))))))
    simp only [List.drop_succ_cons, List.drop_zero, anyAt_cons, anyAt_nil]
    refine pops_mv (.inl rfl) rfl (by simp only [St.eval, upd_at, Nat.reduceEqDiff, if_true, if_false] <;> rfl) ?_
    apply pops_or0 11 42 53 [43, 44, 45, 46, 47, 48, 49, 50, 51, 52] (by simp only [upd_at, Nat.reduceEqDiff, if_true, if_false] <;> rfl)
    ·skip
     intro g42_0 J31 hJ31
     simp only [List.take_succ_cons, List.take_zero]
     simp only [anyAt_cons, anyAt_nil] at hJ31
     refine pops_do rfl rfl (by simp only [upd_at, Nat.reduceEqDiff, if_true, if_false, g42_0]) fun M hM => ?_
     simp only [pop, St.eval, upd_at, Nat.reduceEqDiff, if_false, popFieldAddr, fieldOf, List.drop_succ_cons, List.drop_zero, List.getElem?_toArray, List.getElem?_cons_zero, List.getElem?_cons_succ, Tryd.underlying36, sz3, e0_1, filtPV, g42_0]
     refine ⟨⟨_, rfl⟩, hM _ _ ?_⟩
     clear hM M
     refine pops_do rfl rfl (by simp only [upd_at, Nat.reduceEqDiff, if_true, if_false, g42_0]) fun M hM => ?_
     simp only [pop, St.eval, upd_at, Nat.reduceEqDiff, if_true, if_false, popLoad, loadK, isAggD, Bool.false_eq_true, Tryd.underlying3, sz3, eq_self, g42_0]
     refine hM _ _ ?_
     clear hM M
     refine pops_do rfl rfl (by simp only [upd_at, Nat.reduceEqDiff, if_true, if_false, g42_0]) fun M hM => ?_
     simp only [pop, St.eval, constSlot, upd_at, Nat.reduceEqDiff, if_true, if_false, popBin, binK, intK, eq_self, true_and, g42_0]
     refine hM _ _ ?_
     clear hM M
     refine pops_mvg (.inl rfl) rfl rfl (by simp only [upd_at, Nat.reduceEqDiff, if_true, if_false, g42_0]) (by simp only [St.eval, upd_at, Nat.reduceEqDiff, if_true, if_false, g42_0] <;> rfl) ?_
     apply pops_and0 6 46 52 [47, 48, 49, 50, 51] (by simp only [upd_at, Nat.reduceEqDiff, if_true, if_false, g42_0] <;> rfl)
     ·skip
      intro g46_1 J32 hJ32
      simp only [List.take_succ_cons, List.take_zero]
      simp only [anyAt_cons, anyAt_nil] at hJ32
      refine pops_do rfl rfl (by simp only [upd_at, Nat.reduceEqDiff, if_true, if_false, g42_0, g46_1]) fun M hM => ?_
      simp only [pop, St.eval, upd_at, Nat.reduceEqDiff, if_false, popFieldAddr, fieldOf, List.drop_succ_cons, List.drop_zero, List.getElem?_toArray, List.getElem?_cons_zero, List.getElem?_cons_succ, Tryd.underlying36, sz3, e0_1, filtPV, g42_0, g46_1]
      refine ⟨⟨_, rfl⟩, hM _ _ ?_⟩
      clear hM M
      refine pops_do rfl rfl (by simp only [upd_at, Nat.reduceEqDiff, if_true, if_false, g42_0, g46_1]) fun M hM => ?_
      simp only [pop, St.eval, upd_at, Nat.reduceEqDiff, if_true, if_false, popLoad, loadK, isAggD, Bool.false_eq_true, Tryd.underlying3, sz3, eq_self, g42_0, g46_1]
      refine hM _ _ ?_
      clear hM M
      refine pops_do rfl rfl (by simp only [upd_at, Nat.reduceEqDiff, if_true, if_false, g42_0, g46_1]) fun M hM => ?_
      simp only [pop, St.eval, upd_at, Nat.reduceEqDiff, if_false, popFieldAddr, fieldOf, List.drop_succ_cons, List.drop_zero, List.getElem?_toArray, List.getElem?_cons_zero, List.getElem?_cons_succ, Tryd.underlying36, sz3, e0_1, filtPV, g42_0, g46_1]
      refine ⟨⟨_, rfl⟩, hM _ _ ?_⟩
      clear hM M
      refine pops_do rfl rfl (by simp only [upd_at, Nat.reduceEqDiff, if_true, if_false, g42_0, g46_1]) fun M hM => ?_
      simp only [pop, St.eval, upd_at, Nat.reduceEqDiff, if_true, if_false, popLoad, loadK, isAggD, Bool.false_eq_true, Tryd.underlying3, sz3, eq_self, g42_0, g46_1]
      refine hM _ _ ?_
      clear hM M
      refine pops_do rfl rfl (by simp only [upd_at, Nat.reduceEqDiff, if_true, if_false, g42_0, g46_1]) fun M hM => ?_
      simp only [pop, St.eval, upd_at, Nat.reduceEqDiff, if_true, if_false, popBin, binK, intK, eq_self, true_and, g42_0, g46_1]
      refine hM _ _ ?_
      clear hM M
      refine pops_do rfl rfl (by simp only [upd_at, Nat.reduceEqDiff, if_true, if_false, g42_0, g46_1]) fun M hM => ?_
      simp only [pop, St.eval, constSlot, upd_at, Nat.reduceEqDiff, if_true, if_false, true_implies, false_implies, Bool.true_eq_false, and_true, g42_0, g46_1]
      refine hM _ _ ?_
      clear hM M
      exact pops_done (hJ32 _ (wk_same (wk_any ((wk_any ((wk_any ((wk_any ((wk_any (Wk.refl _ _))))))))))))
     ·skip
      intro g46_1 J32 hJ32
      simp only [List.take_succ_cons, List.take_zero]
      simp only [anyAt_cons, anyAt_nil] at hJ32
      refine pops_off (b := false) rfl rfl (by simp only [upd_at, Nat.reduceEqDiff, if_true, if_false, g42_0, g46_1]) (by decide) ?_
      refine pops_off (b := false) rfl rfl (by simp only [upd_at, Nat.reduceEqDiff, if_true, if_false, g42_0, g46_1]) (by decide) ?_
      refine pops_off (b := false) rfl rfl (by simp only [upd_at, Nat.reduceEqDiff, if_true, if_false, g42_0, g46_1]) (by decide) ?_
      refine pops_off (b := false) rfl rfl (by simp only [upd_at, Nat.reduceEqDiff, if_true, if_false, g42_0, g46_1]) (by decide) ?_
      refine pops_off (b := false) rfl rfl (by simp only [upd_at, Nat.reduceEqDiff, if_true, if_false, g42_0, g46_1]) (by decide) ?_
      refine pops_do rfl rfl (by simp only [upd_at, Nat.reduceEqDiff, if_true, if_false, g42_0, g46_1]) fun M hM => ?_
      simp only [pop, St.eval, constSlot, upd_at, Nat.reduceEqDiff, if_true, if_false, true_implies, false_implies, Bool.false_eq_true, true_and, g42_0, g46_1]
      refine hM _ _ ?_
      clear hM M
      exact pops_done (hJ32 _ (wk_same (wk_any ((wk_any ((wk_any ((wk_any ((wk_any (Wk.refl _ _))))))))))))
     simp only [List.drop_succ_cons, List.drop_zero, anyAt_cons, anyAt_nil]
     refine pops_to rfl fun M hM => ?_
     simp only [pop, St.eval, constSlot, upd_at, Nat.reduceEqDiff, if_true, if_false, true_implies, false_implies, Bool.false_eq_true, true_and, g42_0]
     refine hM _ _ ?_
     clear hM M
     exact pops_done (hJ31 _ (wk_same (wk_any ((wk_any ((wk_any ((wk_any ((wk_any ((wk_any ((wk_any ((wk_any ((wk_any ((wk_any (Wk.refl _ _))))))))))))))))))))))
    ·skip
     intro g42_0 J31 hJ31
     simp only [List.take_succ_cons, List.take_zero]
     simp only [anyAt_cons, anyAt_nil] at hJ31
     refine pops_off (b := true) rfl rfl (by simp only [upd_at, Nat.reduceEqDiff, if_true, if_false, g42_0]) (by decide) ?_
     refine pops_off (b := true) rfl rfl (by simp only [upd_at, Nat.reduceEqDiff, if_true, if_false, g42_0]) (by decide) ?_
     refine pops_off (b := true) rfl rfl (by simp only [upd_at, Nat.reduceEqDiff, if_true, if_false, g42_0]) (by decide) ?_
     refine pops_off (b := true) rfl rfl (by simp only [upd_at, Nat.reduceEqDiff, if_true, if_false, g42_0]) (by decide) ?_
     refine pops_off0 rfl rfl (by simp only [upd_at, Nat.reduceEqDiff, if_true, if_false, g42_0]) ?_
     refine pops_off0 rfl rfl (by simp only [upd_at, Nat.reduceEqDiff, if_true, if_false, g42_0]) ?_
     refine pops_off0 rfl rfl (by simp only [upd_at, Nat.reduceEqDiff, if_true, if_false, g42_0]) ?_
     refine pops_off0 rfl rfl (by simp only [upd_at, Nat.reduceEqDiff, if_true, if_false, g42_0]) ?_
     refine pops_off0 rfl rfl (by simp only [upd_at, Nat.reduceEqDiff, if_true, if_false, g42_0]) ?_
     refine pops_off (b := true) rfl rfl (by simp only [upd_at, Nat.reduceEqDiff, if_true, if_false, g42_0]) (by decide) ?_
     refine pops_to rfl fun M hM => ?_
     simp only [pop, St.eval, constSlot, upd_at, Nat.reduceEqDiff, if_true, if_false, true_implies, false_implies, Bool.true_eq_false, and_true, g42_0]
     refine hM _ _ ?_
     clear hM M
     exact pops_done (hJ31 _ (wk_same (wk_any ((wk_any ((wk_any ((wk_any ((wk_any ((wk_any ((wk_any ((wk_any ((wk_any ((wk_any (Wk.refl _ _))))))))))))))))))))))
    simp only [List.drop_succ_cons, List.drop_zero, anyAt_cons, anyAt_nil]
    refine pops_mv (.inl rfl) rfl (by simp only [St.eval, upd_at, Nat.reduceEqDiff, if_true, if_false] <;> rfl) ?_
    apply pops_or0 4 54 58 [55, 56, 57] (by simp only [upd_at, Nat.reduceEqDiff, if_true, if_false] <;> rfl)
    ·skip
     intro g54_0 J33 hJ33
     simp only [List.take_succ_cons, List.take_zero]
     simp only [anyAt_cons, anyAt_nil] at hJ33
     refine pops_do rfl rfl (by simp only [upd_at, Nat.reduceEqDiff, if_true, if_false, g54_0]) fun M hM => ?_
     simp only [pop, St.eval, upd_at, Nat.reduceEqDiff, if_false, popFieldAddr, fieldOf, List.drop_succ_cons, List.drop_zero, List.getElem?_toArray, List.getElem?_cons_zero, List.getElem?_cons_succ, Tryd.underlying36, sz3, e0_1, filtPV, g54_0]
     refine ⟨⟨_, rfl⟩, hM _ _ ?_⟩
     clear hM M
     refine pops_do rfl rfl (by simp only [upd_at, Nat.reduceEqDiff, if_true, if_false, g54_0]) fun M hM => ?_
     simp only [pop, St.eval, upd_at, Nat.reduceEqDiff, if_true, if_false, popLoad, loadK, isAggD, Bool.false_eq_true, Tryd.underlying3, sz3, eq_self, g54_0]
     refine hM _ _ ?_
     clear hM M
     refine pops_do rfl rfl (by simp only [upd_at, Nat.reduceEqDiff, if_true, if_false, g54_0]) fun M hM => ?_
     simp only [pop, St.eval, constSlot, upd_at, Nat.reduceEqDiff, if_true, if_false, popBin, binK, intK, eq_self, true_and, g54_0]
     refine hM _ _ ?_
     clear hM M
     refine pops_to rfl fun M hM => ?_
     simp only [pop, St.eval, constSlot, upd_at, Nat.reduceEqDiff, if_true, if_false, true_implies, false_implies, Bool.false_eq_true, true_and, g54_0]
     refine hM _ _ ?_
     clear hM M
     exact pops_done (hJ33 _ (wk_same (wk_any ((wk_any ((wk_any (Wk.refl _ _))))))))
    ·skip
     intro g54_0 J33 hJ33
     simp only [List.take_succ_cons, List.take_zero]
     simp only [anyAt_cons, anyAt_nil] at hJ33
     refine pops_off (b := true) rfl rfl (by simp only [upd_at, Nat.reduceEqDiff, if_true, if_false, g54_0]) (by decide) ?_
     refine pops_off (b := true) rfl rfl (by simp only [upd_at, Nat.reduceEqDiff, if_true, if_false, g54_0]) (by decide) ?_
     refine pops_off (b := true) rfl rfl (by simp only [upd_at, Nat.reduceEqDiff, if_true, if_false, g54_0]) (by decide) ?_
     refine pops_to rfl fun M hM => ?_
     simp only [pop, St.eval, constSlot, upd_at, Nat.reduceEqDiff, if_true, if_false, true_implies, false_implies, Bool.true_eq_false, and_true, g54_0]
     refine hM _ _ ?_
     clear hM M
     exact pops_done (hJ33 _ (wk_same (wk_any ((wk_any ((wk_any (Wk.refl _ _))))))))
    simp only [List.drop_succ_cons, List.drop_zero, anyAt_cons, anyAt_nil]
    refine pops_mv (.inl rfl) rfl (by simp only [St.eval, upd_at, Nat.reduceEqDiff, if_true, if_false] <;> rfl) ?_
    apply pops_or0 11 59 70 [60, 61, 62, 63, 64, 65, 66, 67, 68, 69] (by simp only [upd_at, Nat.reduceEqDiff, if_true, if_false] <;> rfl)
    ·skip
     intro g59_0 J34 hJ34
     simp only [List.take_succ_cons, List.take_zero]
     simp only [anyAt_cons, anyAt_nil] at hJ34
     refine pops_do rfl rfl (by simp only [upd_at, Nat.reduceEqDiff, if_true, if_false, g59_0]) fun M hM => ?_
     simp only [pop, St.eval, upd_at, Nat.reduceEqDiff, if_false, popFieldAddr, fieldOf, List.drop_succ_cons, List.drop_zero, List.getElem?_toArray, List.getElem?_cons_zero, List.getElem?_cons_succ, Tryd.underlying36, sz3, e0_1, filtPV, g59_0]
     refine ⟨⟨_, rfl⟩, hM _ _ ?_⟩
     clear hM M
     refine pops_do rfl rfl (by simp only [upd_at, Nat.reduceEqDiff, if_true, if_false, g59_0]) fun M hM => ?_
     simp only [pop, St.eval, upd_at, Nat.reduceEqDiff, if_true, if_false, popLoad, loadK, isAggD, Bool.false_eq_true, Tryd.underlying3, sz3, eq_self, g59_0]
     refine hM _ _ ?_
     clear hM M
     refine pops_do rfl rfl (by simp only [upd_at, Nat.reduceEqDiff, if_true, if_false, g59_0]) fun M hM => ?_
     simp only [pop, St.eval, constSlot, upd_at, Nat.reduceEqDiff, if_true, if_false, popBin, binK, intK, eq_self, true_and, g59_0]
     refine hM _ _ ?_
     clear hM M
     refine pops_mvg (.inl rfl) rfl rfl (by simp only [upd_at, Nat.reduceEqDiff, if_true, if_false, g59_0]) (by simp only [St.eval, upd_at, Nat.reduceEqDiff, if_true, if_false, g59_0] <;> rfl) ?_
     apply pops_and0 6 63 69 [64, 65, 66, 67, 68] (by simp only [upd_at, Nat.reduceEqDiff, if_true, if_false, g59_0] <;> rfl)
     ·skip
      intro g63_1 J35 hJ35
      simp only [List.take_succ_cons, List.take_zero]
      simp only [anyAt_cons, anyAt_nil] at hJ35
      refine pops_do rfl rfl (by simp only [upd_at, Nat.reduceEqDiff, if_true, if_false, g59_0, g63_1]) fun M hM => ?_
      simp only [pop, St.eval, upd_at, Nat.reduceEqDiff, if_false, popFieldAddr, fieldOf, List.drop_succ_cons, List.drop_zero, List.getElem?_toArray, List.getElem?_cons_zero, List.getElem?_cons_succ, Tryd.underlying36, sz3, e0_1, filtPV, g59_0, g63_1]
      refine ⟨⟨_, rfl⟩, hM _ _ ?_⟩
      clear hM M
      refine pops_do rfl rfl (by simp only [upd_at, Nat.reduceEqDiff, if_true, if_false, g59_0, g63_1]) fun M hM => ?_
      simp only [pop, St.eval, upd_at, Nat.reduceEqDiff, if_true, if_false, popLoad, loadK, isAggD, Bool.false_eq_true, Tryd.underlying3, sz3, eq_self, g59_0, g63_1]
      refine hM _ _ ?_
      clear hM M
      refine pops_do rfl rfl (by simp only [upd_at, Nat.reduceEqDiff, if_true, if_false, g59_0, g63_1]) fun M hM => ?_
      simp only [pop, St.eval, upd_at, Nat.reduceEqDiff, if_false, popFieldAddr, fieldOf, List.drop_succ_cons, List.drop_zero, List.getElem?_toArray, List.getElem?_cons_zero, List.getElem?_cons_succ, Tryd.underlying36, sz3, e0_1, filtPV, g59_0, g63_1]
      refine ⟨⟨_, rfl⟩, hM _ _ ?_⟩
      clear hM M
      refine pops_do rfl rfl (by simp only [upd_at, Nat.reduceEqDiff, if_true, if_false, g59_0, g63_1]) fun M hM => ?_
      simp only [pop, St.eval, upd_at, Nat.reduceEqDiff, if_true, if_false, popLoad, loadK, isAggD, Bool.false_eq_true, Tryd.underlying3, sz3, eq_self, g59_0, g63_1]
      refine hM _ _ ?_
      clear hM M
      refine pops_do rfl rfl (by simp only [upd_at, Nat.reduceEqDiff, if_true, if_false, g59_0, g63_1]) fun M hM => ?_
      simp only [pop, St.eval, upd_at, Nat.reduceEqDiff, if_true, if_false, popBin, binK, intK, eq_self, true_and, g59_0, g63_1]
      refine hM _ _ ?_
      clear hM M
      refine pops_do rfl rfl (by simp only [upd_at, Nat.reduceEqDiff, if_true, if_false, g59_0, g63_1]) fun M hM => ?_
      simp only [pop, St.eval, constSlot, upd_at, Nat.reduceEqDiff, if_true, if_false, true_implies, false_implies, Bool.true_eq_false, and_true, g59_0, g63_1]
      refine hM _ _ ?_
      clear hM M
      exact pops_done (hJ35 _ (wk_same (wk_any ((wk_any ((wk_any ((wk_any ((wk_any (Wk.refl _ _))))))))))))
     ·skip
      intro g63_1 J35 hJ35
      simp only [List.take_succ_cons, List.take_zero]
      simp only [anyAt_cons, anyAt_nil] at hJ35
      refine pops_off (b := false) rfl rfl (by simp only [upd_at, Nat.reduceEqDiff, if_true, if_false, g59_0, g63_1]) (by decide) ?_
      refine pops_off (b := false) rfl rfl (by simp only [upd_at, Nat.reduceEqDiff, if_true, if_false, g59_0, g63_1]) (by decide) ?_
      refine pops_off (b := false) rfl rfl (by simp only [upd_at, Nat.reduceEqDiff, if_true, if_false, g59_0, g63_1]) (by decide) ?_
      refine pops_off (b := false) rfl rfl (by simp only [upd_at, Nat.reduceEqDiff, if_true, if_false, g59_0, g63_1]) (by decide) ?_
      refine pops_off (b := false) rfl rfl (by simp only [upd_at, Nat.reduceEqDiff, if_true, if_false, g59_0, g63_1]) (by decide) ?_
      refine pops_do rfl rfl (by simp only [upd_at, Nat.reduceEqDiff, if_true, if_false, g59_0, g63_1]) fun M hM => ?_
      simp only [pop, St.eval, constSlot, upd_at, Nat.reduceEqDiff, if_true, if_false, true_implies, false_implies, Bool.false_eq_true, true_and, g59_0, g63_1]
      refine hM _ _ ?_
      clear hM M
      exact pops_done (hJ35 _ (wk_same (wk_any ((wk_any ((wk_any ((wk_any ((wk_any (Wk.refl _ _))))))))))))
     simp only [List.drop_succ_cons, List.drop_zero, anyAt_cons, anyAt_nil]
     refine pops_to rfl fun M hM => ?_
     simp only [pop, St.eval, constSlot, upd_at, Nat.reduceEqDiff, if_true, if_false, true_implies, false_implies, Bool.false_eq_true, true_and, g59_0]
     refine hM _ _ ?_
     clear hM M
     exact pops_done (hJ34 _ (wk_same (wk_any ((wk_any ((wk_any ((wk_any ((wk_any ((wk_any ((wk_any ((wk_any ((wk_any ((wk_any (Wk.refl _ _))))))))))))))))))))))
    ·skip
     intro g59_0 J34 hJ34
     simp only [List.take_succ_cons, List.take_zero]
     simp only [anyAt_cons, anyAt_nil] at hJ34
     refine pops_off (b := true) rfl rfl (by simp only [upd_at, Nat.reduceEqDiff, if_true, if_false, g59_0]) (by decide) ?_
     refine pops_off (b := true) rfl rfl (by simp only [upd_at, Nat.reduceEqDiff, if_true, if_false, g59_0]) (by decide) ?_
     refine pops_off (b := true) rfl rfl (by simp only [upd_at, Nat.reduceEqDiff, if_true, if_false, g59_0]) (by decide) ?_
     refine pops_off (b := true) rfl rfl (by simp only [upd_at, Nat.reduceEqDiff, if_true, if_false, g59_0]) (by decide) ?_
     refine pops_off0 rfl rfl (by simp only [upd_at, Nat.reduceEqDiff, if_true, if_false, g59_0]) ?_
     refine pops_off0 rfl rfl (by simp only [upd_at, Nat.reduceEqDiff, if_true, if_false, g59_0]) ?_
     refine pops_off0 rfl rfl (by simp only [upd_at, Nat.reduceEqDiff, if_true, if_false, g59_0]) ?_
     refine pops_off0 rfl rfl (by simp only [upd_at, Nat.reduceEqDiff, if_true, if_false, g59_0]) ?_
     refine pops_off0 rfl rfl (by simp only [upd_at, Nat.reduceEqDiff, if_true, if_false, g59_0]) ?_
     refine pops_off (b := true) rfl rfl (by simp only [upd_at, Nat.reduceEqDiff, if_true, if_false, g59_0]) (by decide) ?_
     refine pops_to rfl fun M hM => ?_
     simp only [pop, St.eval, constSlot, upd_at, Nat.reduceEqDiff, if_true, if_false, true_implies, false_implies, Bool.true_eq_false, and_true, g59_0]
     refine hM _ _ ?_
     clear hM M
     exact pops_done (hJ34 _ (wk_same (wk_any ((wk_any ((wk_any ((wk_any ((wk_any ((wk_any ((wk_any ((wk_any ((wk_any ((wk_any (Wk.refl _ _))))))))))))))))))))))
    simp only [List.drop_succ_cons, List.drop_zero, anyAt_cons, anyAt_nil]
    refine pops_done (hR27 _ ?_)
    clear hR27 R27
    try simp only [thenK]
    refine hN26 _ ?_
    clear hN26 N26
    refine pwp_cond (by simp only [St.eval, upd_at, Nat.reduceEqDiff, if_true, if_false] <;> rfl) (fun c70 => ?_) (fun c70 => ?_)
    ·skip
     have hb : rngF f = true := by rw [← rng_ref]; exact c70
     have hres : filtE f = 7 := by rw [filtE, if_neg hbig, if_neg (by rw [← hx0_1]; decide), if_pos hb]
     refine pwp_then fun N36 hN36 => ?_
     refine pwp_reg fun R37 hR37 => ?_
     refine pops_mv (.inr rfl) rfl (by simp only [St.eval, constSlot] <;> rfl) ?_
     refine pops_done (hR37 _ ?_)
     clear hR37 R37
     try simp only [thenK]
     refine hN36 _ ?_
     clear hN36 N36
     refine pwp_ret ?_
     simp only [thenK, bodyK]
     clear hN25 N25
     refine ⟨_, rfl, endFun sl0 ?_⟩
     try simp only [upd_at, Nat.reduceEqDiff, if_true, if_false]
     all_goals
      rw [hres]
    ·skip
     have hb : rngF f = false := by rw [← rng_ref]; exact c70
     have hres : filtE f = 0 := by rw [filtE, if_neg hbig, if_neg (by rw [← hx0_1]; decide), if_neg (by rw [hb]; decide)]
     refine pwp_skip ?_
     try simp only [thenK]
     refine hN25 _ ?_
     clear hN25 N25
     refine pwp_then fun N38 hN38 => ?_
     refine pwp_reg fun R39 hR39 => ?_
     refine pops_mv (.inr rfl) rfl (by simp only [St.eval, constSlot] <;> rfl) ?_
     refine pops_done (hR39 _ ?_)
     clear hR39 R39
     try simp only [thenK]
     refine hN38 _ ?_
     clear hN38 N38
     refine pwp_ret ?_
     simp only [bodyK]
     refine ⟨_, rfl, endFun sl0 ?_⟩
     try simp only [upd_at, Nat.reduceEqDiff, if_true, if_false]
     all_goals
      rw [hres]
theorem nm14 : (Tryd.f14.name == "runtime.NumGoroutine") = false := by kernel_rfl
theorem passesE_fun (W0 : World) (f : FiltG) (hw : ∀ r ∈ f.rules, lW r.parts ≤ 1048576) (hn : f.rules.length ≤ 1048576) (x : InfG) (now : Int) (he : filtE f ≠ 0) :
  PFun Tryd.prog W0 14 [.agg (filtPV f), .agg (infPV x), .one (pint now)] (.tup [.one (pbool false), .one (pint (filtE f))]) := by
 intro h
 refine pcalls3 (n := 31) Tryd.func14 rfl nm14 rfl fun hb => ?_
 refine pwp_then fun N1 hN1 => ?_
 refine pwp_reg fun R2 hR2 => ?_
 refine pops_to rfl fun M hM => ?_
 simp only [pop, St.eval, upd_at, Nat.reduceEqDiff, if_true, if_false, popBox, popBoxRo, slotCells, filtPV, infPV]
 refine .inr ⟨Nat.succ_pos _, hM _ _ ?_⟩
 clear hM M
 refine pops_to rfl fun M hM => ?_
 simp only [pop, St.eval, upd_at, Nat.reduceEqDiff, if_true, if_false, popBox, popBoxRo, slotCells, filtPV, infPV]
 refine .inr ⟨Nat.succ_pos _, hM _ _ ?_⟩
 clear hM M
 refine pops_mv (.inr rfl) rfl (by simp only [St.eval, constSlot] <;> rfl) ?_
 refine pops_mv (.inr rfl) rfl (by simp only [St.eval, constSlot] <;> rfl) ?_
 refine pops_done (hR2 _ ?_)
 clear hR2 R2
 try simp only [thenK]
 refine hN1 _ ?_
 clear hN1 N1
 refine pwp_then fun N3 hN3 => ?_
 refine pwp_then fun N4 hN4 => ?_
 refine pwp_reg fun R5 hR5 => ?_
 refine pops_to rfl fun M hM => ?_
 simp only [pop, St.eval, upd_at, Nat.reduceEqDiff, if_true, if_false, List.length_cons, List.length_nil, Nat.zero_add, Nat.reduceAdd, Nat.reduceLeDiff, List.take_succ_cons, List.take_nil, popLoad, loadK, isAggD, Tryd.underlying36, sz36, eq_self, true_and, filtPV, infPV]
 refine hM _ _ ?_
 clear hM M
 refine pops_to rfl fun M hM => ?_
 simp only [pop, St.eval, constSlot, upd_at, Nat.reduceEqDiff, if_true, if_false, popCall, List.map_nil, svs, List.mapM_cons, List.mapM_nil, Option.bind_eq_bind, Option.bind_some, Option.pure_def, List.append_nil, filtPV, infPV]
 refine PFun.use (checkFilter_fun W0 f hw hn) fun h1 s1 => hM _ _ ?_
 replace s1 := Same.trans (Same.refl _) s1
 clear hM M
 refine pops_mv (.inr rfl) rfl (by simp only [St.eval, upd_at, Nat.reduceEqDiff, if_true, if_false, filtPV, infPV] <;> rfl) ?_
 refine pops_done (hR5 _ ?_)
 clear hR5 R5
 try simp only [thenK]
 refine hN4 _ ?_
 clear hN4 N4
 refine pwp_then fun N6 hN6 => ?_
 refine pwp_reg fun R7 hR7 => ?_
 refine pops_mv (.inl rfl) rfl (by simp only [St.eval, upd_at, Nat.reduceEqDiff, if_true, if_false, filtPV, infPV] <;> rfl) ?_
 refine pops_to rfl fun M hM => ?_
 simp only [pop, St.eval, constSlot, upd_at, Nat.reduceEqDiff, if_true, if_false, popBin, binK, intK, eq_self, true_and, filtPV, infPV]
 refine hM _ _ ?_
 clear hM M
 refine pops_done (hR7 _ ?_)
 clear hR7 R7
 try simp only [thenK]
 refine hN6 _ ?_
 clear hN6 N6
 refine pwp_cond (by simp only [St.eval, upd_at, Nat.reduceEqDiff, if_true, if_false, filtPV, infPV] <;> rfl) (fun c13 => ?_) (fun c13 => ?_)
 ·skip
  skip
  refine pwp_then fun N8 hN8 => ?_
  refine pwp_reg fun R9 hR9 => ?_
  refine pops_mv (.inl rfl) rfl (by simp only [St.eval, upd_at, Nat.reduceEqDiff, if_true, if_false, filtPV, infPV] <;> rfl) ?_
  refine pops_mv (.inr rfl) rfl (by simp only [St.eval, constSlot] <;> rfl) ?_
  refine pops_mv (.inr rfl) rfl (by simp only [St.eval, upd_at, Nat.reduceEqDiff, if_true, if_false, filtPV, infPV] <;> rfl) ?_
  refine pops_done (hR9 _ ?_)
  clear hR9 R9
  try simp only [thenK]
  refine hN8 _ ?_
  clear hN8 N8
  refine pwp_ret ?_
  simp only [thenK, bodyK]
  clear hN3 N3
  refine ⟨_, rfl, endFun s1 ?_⟩
  try simp only []
  all_goals
   rfl
 ·skip
  have h9 : filtE f = 0 := by simpa using c13
  exact absurd h9 he
theorem nm16 : (Tryd.f16.name == "runtime.NumGoroutine") = false := by kernel_rfl
theorem passesDirE_fun (W0 : World) (f : FiltG) (hw : ∀ r ∈ f.rules, lW r.parts ≤ 1048576) (hn : f.rules.length ≤ 1048576) (s : List UInt8) (he : filtE f ≠ 0) :
  PFun Tryd.prog W0 16 [.agg (filtPV f), .one (pstr s)] (.tup [.one (pbool false), .one (pint (filtE f))]) := by
 intro h
 refine pcalls2 (n := 21) Tryd.func16 rfl nm16 rfl fun hb => ?_
 refine pwp_then fun N1 hN1 => ?_
 refine pwp_reg fun R2 hR2 => ?_
 refine pops_to rfl fun M hM => ?_
 simp only [pop, St.eval, upd_at, Nat.reduceEqDiff, if_true, if_false, popBox, popBoxRo, slotCells, filtPV]
 refine .inr ⟨Nat.succ_pos _, hM _ _ ?_⟩
 clear hM M
 refine pops_mv (.inr rfl) rfl (by simp only [St.eval, constSlot] <;> rfl) ?_
 refine pops_mv (.inr rfl) rfl (by simp only [St.eval, constSlot] <;> rfl) ?_
 refine pops_done (hR2 _ ?_)
 clear hR2 R2
 try simp only [thenK]
 refine hN1 _ ?_
 clear hN1 N1
 refine pwp_then fun N3 hN3 => ?_
 refine pwp_then fun N4 hN4 => ?_
 refine pwp_reg fun R5 hR5 => ?_
 refine pops_to rfl fun M hM => ?_
 simp only [pop, St.eval, upd_at, Nat.reduceEqDiff, if_true, if_false, List.length_cons, List.length_nil, Nat.zero_add, Nat.reduceAdd, Nat.reduceLeDiff, List.take_succ_cons, List.take_nil, popLoad, loadK, isAggD, Tryd.underlying36, sz36, eq_self, true_and, filtPV]
 refine hM _ _ ?_
 clear hM M
 refine pops_to rfl fun M hM => ?_
 simp only [pop, St.eval, constSlot, upd_at, Nat.reduceEqDiff, if_true, if_false, popCall, List.map_nil, svs, List.mapM_cons, List.mapM_nil, Option.bind_eq_bind, Option.bind_some, Option.pure_def, List.append_nil, filtPV]
 refine PFun.use (checkFilter_fun W0 f hw hn) fun h1 s1 => hM _ _ ?_
 replace s1 := Same.trans (Same.refl _) s1
 clear hM M
 refine pops_mv (.inr rfl) rfl (by simp only [St.eval, upd_at, Nat.reduceEqDiff, if_true, if_false, filtPV] <;> rfl) ?_
 refine pops_done (hR5 _ ?_)
 clear hR5 R5
 try simp only [thenK]
 refine hN4 _ ?_
 clear hN4 N4
 refine pwp_then fun N6 hN6 => ?_
 refine pwp_reg fun R7 hR7 => ?_
 refine pops_mv (.inl rfl) rfl (by simp only [St.eval, upd_at, Nat.reduceEqDiff, if_true, if_false, filtPV] <;> rfl) ?_
 refine pops_to rfl fun M hM => ?_
 simp only [pop, St.eval, constSlot, upd_at, Nat.reduceEqDiff, if_true, if_false, popBin, binK, intK, eq_self, true_and, filtPV]
 refine hM _ _ ?_
 clear hM M
 refine pops_done (hR7 _ ?_)
 clear hR7 R7
 try simp only [thenK]
 refine hN6 _ ?_
 clear hN6 N6
 refine pwp_cond (by simp only [St.eval, upd_at, Nat.reduceEqDiff, if_true, if_false, filtPV] <;> rfl) (fun c11 => ?_) (fun c11 => ?_)
 ·skip
  skip
  refine pwp_then fun N8 hN8 => ?_
  refine pwp_reg fun R9 hR9 => ?_
  refine pops_mv (.inl rfl) rfl (by simp only [St.eval, upd_at, Nat.reduceEqDiff, if_true, if_false, filtPV] <;> rfl) ?_
  refine pops_mv (.inr rfl) rfl (by simp only [St.eval, constSlot] <;> rfl) ?_
  refine pops_mv (.inr rfl) rfl (by simp only [St.eval, upd_at, Nat.reduceEqDiff, if_true, if_false, filtPV] <;> rfl) ?_
  refine pops_done (hR9 _ ?_)
  clear hR9 R9
  try simp only [thenK]
  refine hN8 _ ?_
  clear hN8 N8
  refine pwp_ret ?_
  simp only [thenK, bodyK]
  clear hN3 N3
  refine ⟨_, rfl, endFun s1 ?_⟩
  try simp only []
  all_goals
   rfl
 ·skip
  have h9 : filtE f = 0 := by simpa using c11
  exact absurd h9 he
theorem nm6 : (Tryd.f6.name == "runtime.NumGoroutine") = false := by kernel_rfl
set_option maxHeartbeats 2000000 in
theorem filterChecks_law (W0 : World) (hm : HasMax W0) (f : FiltG) (hw : ∀ r ∈ f.rules, lW r.parts ≤ 1048576) (hn : f.rules.length ≤ 1048576) (x : InfG) (now : Int) :
  PFun Tryd.prog W0 6 [.agg (filtPV f), .agg (infPV x), .one (pint now)] (.sv (.one (pbool true))) := by
 intro h
 refine pcalls3 (n := 52) Tryd.func6 rfl nm6 rfl fun hb => ?_
 refine pwp_then fun N1 hN1 => ?_
 refine pwp_reg fun R2 hR2 => ?_
 refine pops_to rfl fun M hM => ?_
 simp only [pop, St.eval, upd_at, Nat.reduceEqDiff, if_true, if_false, popBox, popBoxRo, slotCells, filtPV, infPV]
 refine .inr ⟨Nat.succ_pos _, hM _ _ ?_⟩
 clear hM M
 refine pops_to rfl fun M hM => ?_
 simp only [pop, St.eval, upd_at, Nat.reduceEqDiff, if_true, if_false, popBox, popBoxRo, slotCells, filtPV, infPV]
 refine .inr ⟨Nat.succ_pos _, hM _ _ ?_⟩
 clear hM M
 refine pops_mv (.inr rfl) rfl (by simp only [St.eval, constSlot] <;> rfl) ?_
 refine pops_done (hR2 _ ?_)
 clear hR2 R2
 try simp only [thenK]
 refine hN1 _ ?_
 clear hN1 N1
 refine pwp_then fun N3 hN3 => ?_
 refine pwp_then fun N4 hN4 => ?_
 refine pwp_reg fun R5 hR5 => ?_
 refine pops_to rfl fun M hM => ?_
 simp only [pop, St.eval, constSlot, upd_at, popCall, List.map_nil, svs, List.mapM_nil, Option.pure_def, List.append_nil, filtPV, infPV]
 refine PFun.use (landed_fun W0 hm) fun h1 s1 => hM _ _ ?_
 replace s1 := Same.trans (Same.refl _) s1
 clear hM M
 refine pops_to rfl fun M hM => ?_
 simp only [pop, St.eval, upd_at, Nat.reduceEqDiff, if_true, if_false, unK, filtPV, infPV]
 refine hM _ _ ?_
 clear hM M
 refine pops_done (hR5 _ ?_)
 clear hR5 R5
 try simp only [thenK]
 refine hN4 _ ?_
 clear hN4 N4
 refine pwp_cond (by simp only [St.eval, upd_at, Nat.reduceEqDiff, if_true, if_false, filtPV, infPV] <;> rfl) (fun c13 => ?_) (fun c13 => ?_)
 ·skip
  simp at c13
 ·skip
  refine pwp_skip ?_
  try simp only [thenK]
  refine hN3 _ ?_
  clear hN3 N3
  refine pwp_then fun N6 hN6 => ?_
  refine pwp_reg fun R7 hR7 => ?_
  refine pops_to rfl fun M hM => ?_
  simp only [pop, St.eval, upd_at, Nat.reduceEqDiff, if_true, if_false, List.length_cons, List.length_nil, Nat.zero_add, Nat.reduceAdd, Nat.reduceLeDiff, List.take_succ_cons, List.take_nil, popLoad, loadK, isAggD, Tryd.underlying36, sz36, eq_self, true_and, filtPV, infPV]
  refine hM _ _ ?_
  clear hM M
  refine pops_to rfl fun M hM => ?_
  simp only [pop, St.eval, constSlot, upd_at, Nat.reduceEqDiff, if_true, if_false, popCall, List.map_nil, svs, List.mapM_cons, List.mapM_nil, Option.bind_eq_bind, Option.bind_some, Option.pure_def, List.append_nil, filtPV, infPV]
  refine PFun.use (checkFilterR_fun W0 f hw hn) fun h2 s2 => hM _ _ ?_
  replace s2 := Same.trans s1 s2
  clear hM M
  refine pops_mv (.inr rfl) rfl (by simp only [St.eval, upd_at, Nat.reduceEqDiff, if_true, if_false, filtPV, infPV] <;> rfl) ?_
  refine pops_done (hR7 _ ?_)
  clear hR7 R7
  try simp only [thenK]
  refine hN6 _ ?_
  clear hN6 N6
  refine pwp_then fun N8 hN8 => ?_
  refine pwp_then fun N9 hN9 => ?_
  refine pwp_reg fun R10 hR10 => ?_
  refine pops_to rfl fun M hM => ?_
  simp only [pop, St.eval, upd_at, Nat.reduceEqDiff, if_true, if_false, List.length_cons, List.length_nil, Nat.zero_add, Nat.reduceAdd, Nat.reduceLeDiff, List.take_succ_cons, List.take_nil, popLoad, loadK, isAggD, Tryd.underlying36, sz36, eq_self, true_and, filtPV, infPV]
  refine hM _ _ ?_
  clear hM M
  refine pops_to rfl fun M hM => ?_
  simp only [pop, St.eval, constSlot, upd_at, Nat.reduceEqDiff, if_true, if_false, popCall, List.map_nil, svs, List.mapM_cons, List.mapM_nil, Option.bind_eq_bind, Option.bind_some, Option.pure_def, List.append_nil, filtPV, infPV]
  refine PFun.use (checkFilter_fun W0 f hw hn) fun h3 s3 => hM _ _ ?_
  replace s3 := Same.trans s2 s3
  clear hM M
  refine pops_mv (.inl rfl) rfl (by simp only [St.eval, upd_at, Nat.reduceEqDiff, if_true, if_false, filtPV, infPV] <;> rfl) ?_
  refine pops_to rfl fun M hM => ?_
  simp only [pop, St.eval, upd_at, Nat.reduceEqDiff, if_true, if_false, popBin, binK, intK, eq_self, true_and, filtPV, infPV, bne_self_eq_false]
  refine hM _ _ ?_
  clear hM M
  refine pops_done (hR10 _ ?_)
  clear hR10 R10
  try simp only [thenK]
  refine hN9 _ ?_
  clear hN9 N9
  refine pwp_cond_false (by simp only [St.eval, upd_at, Nat.reduceEqDiff, if_true, if_false, filtPV, infPV] <;> rfl) ?_
  refine pwp_skip ?_
  try simp only [thenK]
  refine hN8 _ ?_
  clear hN8 N8
  refine pwp_then fun N11 hN11 => ?_
  refine pwp_then fun N12 hN12 => ?_
  refine pwp_reg fun R13 hR13 => ?_
  refine pops_mv (.inl rfl) rfl (by simp only [St.eval, upd_at, Nat.reduceEqDiff, if_true, if_false, filtPV, infPV] <;> rfl) ?_
  refine pops_to rfl fun M hM => ?_
  simp only [pop, St.eval, constSlot, upd_at, Nat.reduceEqDiff, if_true, if_false, popBin, binK, intK, eq_self, true_and, filtPV, infPV]
  refine hM _ _ ?_
  clear hM M
  refine pops_done (hR13 _ ?_)
  clear hR13 R13
  try simp only [thenK]
  refine hN12 _ ?_
  clear hN12 N12
  refine pwp_cond (by simp only [St.eval, upd_at, Nat.reduceEqDiff, if_true, if_false, filtPV, infPV] <;> rfl) (fun c21 => ?_) (fun c21 => ?_)
  ·skip
   skip
   refine pwp_then fun N14 hN14 => ?_
   refine pwp_reg fun R15 hR15 => ?_
   refine pops_mv (.inr rfl) rfl (by simp only [St.eval, constSlot] <;> rfl) ?_
   refine pops_done (hR15 _ ?_)
   clear hR15 R15
   try simp only [thenK]
   refine hN14 _ ?_
   clear hN14 N14
   refine pwp_ret ?_
   simp only [thenK, bodyK]
   clear hN11 N11
   refine ⟨_, rfl, endFun s3 ?_⟩
   try simp only [upd_at, Nat.reduceEqDiff, if_true, if_false, filtPV, infPV]
   all_goals
    rfl
  ·skip
   have he : filtE f ≠ 0 := by simpa using c21
   refine pwp_skip ?_
   try simp only [thenK]
   refine hN11 _ ?_
   clear hN11 N11
   refine pwp_then fun N16 hN16 => ?_
   refine pwp_reg fun R17 hR17 => ?_
   refine pops_to rfl fun M hM => ?_
   simp only [pop, St.eval, upd_at, Nat.reduceEqDiff, if_true, if_false, List.length_cons, List.length_nil, Nat.zero_add, Nat.reduceAdd, Nat.reduceLeDiff, List.take_succ_cons, List.take_nil, popLoad, loadK, isAggD, Tryd.underlying36, sz36, eq_self, true_and, filtPV, infPV]
   refine hM _ _ ?_
   clear hM M
   refine pops_to rfl fun M hM => ?_
   simp only [pop, St.eval, upd_at, Nat.reduceEqDiff, if_true, if_false, List.length_cons, List.length_nil, Nat.zero_add, Nat.reduceAdd, Nat.reduceLeDiff, List.take_succ_cons, List.take_nil, popLoad, loadK, isAggD, Tryd.underlying40, sz40, eq_self, true_and, filtPV, infPV]
   refine hM _ _ ?_
   clear hM M
   refine pops_mv (.inl rfl) rfl (by simp only [St.eval, upd_at, Nat.reduceEqDiff, if_true, if_false, filtPV, infPV] <;> rfl) ?_
   refine pops_to rfl fun M hM => ?_
   simp only [pop, St.eval, constSlot, upd_at, Nat.reduceEqDiff, if_true, if_false, popCall, List.map_nil, svs, List.mapM_cons, List.mapM_nil, Option.bind_eq_bind, Option.bind_some, Option.pure_def, List.append_nil, filtPV, infPV]
   refine PFun.use (passesE_fun W0 f hw hn x now he) fun h4 s4 => hM _ _ ?_
   replace s4 := Same.trans s3 s4
   clear hM M
   refine pops_mv (.inl rfl) rfl (by simp only [St.eval, upd_at, Nat.reduceEqDiff, if_true, if_false, filtPV, infPV] <;> rfl) ?_
   refine pops_to rfl fun M hM => ?_
   simp only [pop, St.eval, upd_at, Nat.reduceEqDiff, if_true, if_false, List.getElem?_cons_zero, filtPV, infPV]
   refine hM _ _ ?_
   clear hM M
   refine pops_to rfl fun M hM => ?_
   simp only [pop, St.eval, upd_at, Nat.reduceEqDiff, if_true, if_false, List.getElem?_cons_zero, List.getElem?_cons_succ, filtPV, infPV]
   refine hM _ _ ?_
   clear hM M
   refine pops_mv (.inr rfl) rfl (by simp only [St.eval, upd_at, Nat.reduceEqDiff, if_true, if_false, filtPV, infPV] <;> rfl) ?_
   refine pops_mv (.inr rfl) rfl (by simp only [St.eval, upd_at, Nat.reduceEqDiff, if_true, if_false, filtPV, infPV] <;> rfl) ?_
   refine pops_done (hR17 _ ?_)
   clear hR17 R17
   try simp only [thenK]
   refine hN16 _ ?_
   clear hN16 N16
   refine pwp_then fun N18 hN18 => ?_
   refine pwp_reg fun R19 hR19 => ?_
   refine pops_to rfl fun M hM => ?_
   simp only [pop, St.eval, upd_at, Nat.reduceEqDiff, if_true, if_false, List.length_cons, List.length_nil, Nat.zero_add, Nat.reduceAdd, Nat.reduceLeDiff, List.take_succ_cons, List.take_nil, popLoad, loadK, isAggD, Tryd.underlying36, sz36, eq_self, true_and, filtPV, infPV]
   refine hM _ _ ?_
   clear hM M
   refine pops_to rfl fun M hM => ?_
   simp only [pop, St.eval, upd_at, Nat.reduceEqDiff, if_true, if_false, popFieldAddr, fieldOf, List.drop_zero, List.getElem?_toArray, List.getElem?_cons_zero, Tryd.underlying40, sz9, filtPV, infPV]
   refine ⟨⟨_, rfl⟩, hM _ _ ?_⟩
   clear hM M
   refine pops_to rfl fun M hM => ?_
   simp only [pop, St.eval, upd_at, Nat.reduceEqDiff, if_true, if_false, popLoad, loadK, isAggD, Bool.false_eq_true, Tryd.underlying9, sz9, eq_self, filtPV, infPV]
   refine hM _ _ ?_
   clear hM M
   refine pops_to rfl fun M hM => ?_
   simp only [pop, St.eval, constSlot, upd_at, Nat.reduceEqDiff, if_true, if_false, popCall, List.map_nil, svs, List.mapM_cons, List.mapM_nil, Option.bind_eq_bind, Option.bind_some, Option.pure_def, List.append_nil, filtPV, infPV]
   refine PFun.use (passesDirE_fun W0 f hw hn x.path he) fun h5 s5 => hM _ _ ?_
   replace s5 := Same.trans s4 s5
   clear hM M
   refine pops_mv (.inl rfl) rfl (by simp only [St.eval, upd_at, Nat.reduceEqDiff, if_true, if_false, filtPV, infPV] <;> rfl) ?_
   refine pops_to rfl fun M hM => ?_
   simp only [pop, St.eval, upd_at, Nat.reduceEqDiff, if_true, if_false, List.getElem?_cons_zero, filtPV, infPV]
   refine hM _ _ ?_
   clear hM M
   refine pops_to rfl fun M hM => ?_
   simp only [pop, St.eval, upd_at, Nat.reduceEqDiff, if_true, if_false, List.getElem?_cons_zero, List.getElem?_cons_succ, filtPV, infPV]
   refine hM _ _ ?_
   clear hM M
   refine pops_mv (.inr rfl) rfl (by simp only [St.eval, upd_at, Nat.reduceEqDiff, if_true, if_false, filtPV, infPV] <;> rfl) ?_
   refine pops_mv (.inr rfl) rfl (by simp only [St.eval, upd_at, Nat.reduceEqDiff, if_true, if_false, filtPV, infPV] <;> rfl) ?_
   refine pops_done (hR19 _ ?_)
   clear hR19 R19
   try simp only [thenK]
   refine hN18 _ ?_
   clear hN18 N18
   refine pwp_then fun N20 hN20 => ?_
   refine pwp_reg fun R21 hR21 => ?_
   refine pops_mv (.inl rfl) rfl (by simp only [St.eval, upd_at, Nat.reduceEqDiff, if_true, if_false, filtPV, infPV] <;> rfl) ?_
   refine pops_to rfl fun M hM => ?_
   simp only [pop, St.eval, upd_at, Nat.reduceEqDiff, if_true, if_false, unK, filtPV, infPV]
   refine hM _ _ ?_
   clear hM M
   refine pops_mv (.inl rfl) rfl (by simp only [St.eval, upd_at, Nat.reduceEqDiff, if_true, if_false, filtPV, infPV] <;> rfl) ?_
   apply pops_and0 4 38 42 [39, 40, 41] (by simp only [upd_at, Nat.reduceEqDiff, if_true, if_false, filtPV, infPV] <;> rfl)
   ·skip
    intro g38_0 J22 hJ22
    simp only [List.take_succ_cons, List.take_zero]
    simp only [anyAt_cons, anyAt_nil] at hJ22
    refine pops_mvg (.inl rfl) rfl rfl (by simp only [upd_at, Nat.reduceEqDiff, if_true, if_false, filtPV, infPV, g38_0]) (by simp only [St.eval, upd_at, Nat.reduceEqDiff, if_true, if_false, filtPV, infPV, g38_0] <;> rfl) ?_
    refine pops_mvg (.inl rfl) rfl rfl (by simp only [upd_at, Nat.reduceEqDiff, if_true, if_false, filtPV, infPV, g38_0]) (by simp only [St.eval, upd_at, Nat.reduceEqDiff, if_true, if_false, filtPV, infPV, g38_0] <;> rfl) ?_
    refine pops_do rfl rfl (by simp only [upd_at, Nat.reduceEqDiff, if_true, if_false, filtPV, infPV, g38_0]) fun M hM => ?_
    simp only [pop, St.eval, upd_at, Nat.reduceEqDiff, if_true, if_false, popBin, binK, intK, eq_self, true_and, filtPV, infPV, g38_0]
    refine hM _ _ ?_
    clear hM M
    refine pops_to rfl fun M hM => ?_
    simp only [pop, St.eval, constSlot, upd_at, Nat.reduceEqDiff, if_true, if_false, true_implies, false_implies, Bool.true_eq_false, reduceCtorEq, and_true, filtPV, infPV, g38_0]
    refine hM _ _ ?_
    clear hM M
    exact pops_done (hJ22 _ (wk_same (wk_any ((wk_any ((wk_any (Wk.refl _ _))))))))
   ·skip
    intro g38_0 J22 hJ22
    simp only [List.take_succ_cons, List.take_zero]
    simp only [anyAt_cons, anyAt_nil] at hJ22
    refine pops_off (b := false) rfl rfl (by simp only [upd_at, Nat.reduceEqDiff, if_true, if_false, filtPV, infPV, g38_0]) (by decide) ?_
    refine pops_off (b := false) rfl rfl (by simp only [upd_at, Nat.reduceEqDiff, if_true, if_false, filtPV, infPV, g38_0]) (by decide) ?_
    refine pops_off (b := false) rfl rfl (by simp only [upd_at, Nat.reduceEqDiff, if_true, if_false, filtPV, infPV, g38_0]) (by decide) ?_
    refine pops_to rfl fun M hM => ?_
    simp only [pop, St.eval, constSlot, upd_at, Nat.reduceEqDiff, if_true, if_false, true_implies, false_implies, Bool.false_eq_true, reduceCtorEq, true_and, filtPV, infPV, g38_0]
    refine hM _ _ ?_
    clear hM M
    exact pops_done (hJ22 _ (wk_same (wk_any ((wk_any ((wk_any (Wk.refl _ _))))))))
   simp only [List.drop_succ_cons, List.drop_zero, anyAt_cons, anyAt_nil]
   refine pops_mv (.inl rfl) rfl (by simp only [St.eval, upd_at, Nat.reduceEqDiff, if_true, if_false, filtPV, infPV] <;> rfl) ?_
   apply pops_and0 3 43 46 [44, 45] (by simp only [upd_at, Nat.reduceEqDiff, if_true, if_false, filtPV, infPV] <;> rfl)
   ·skip
    intro g43_0 J23 hJ23
    simp only [List.take_succ_cons, List.take_zero]
    simp only [anyAt_cons, anyAt_nil] at hJ23
    refine pops_mvg (.inl rfl) rfl rfl (by simp only [upd_at, Nat.reduceEqDiff, if_true, if_false, filtPV, infPV, g43_0]) (by simp only [St.eval, upd_at, Nat.reduceEqDiff, if_true, if_false, filtPV, infPV, g43_0] <;> rfl) ?_
    refine pops_do rfl rfl (by simp only [upd_at, Nat.reduceEqDiff, if_true, if_false, filtPV, infPV, g43_0]) fun M hM => ?_
    simp only [pop, St.eval, upd_at, Nat.reduceEqDiff, if_true, if_false, unK, filtPV, infPV, g43_0]
    refine hM _ _ ?_
    clear hM M
    refine pops_to rfl fun M hM => ?_
    simp only [pop, St.eval, constSlot, upd_at, Nat.reduceEqDiff, if_true, if_false, true_implies, false_implies, Bool.true_eq_false, reduceCtorEq, and_true, filtPV, infPV, g43_0]
    refine hM _ _ ?_
    clear hM M
    exact pops_done (hJ23 _ (wk_same (wk_any ((wk_any (Wk.refl _ _))))))
   ·skip
    intro g43_0 J23 hJ23
    simp only [List.take_succ_cons, List.take_zero]
    simp only [anyAt_cons, anyAt_nil] at hJ23
    refine pops_off (b := false) rfl rfl (by simp only [upd_at, Nat.reduceEqDiff, if_true, if_false, filtPV, infPV, g43_0]) (by decide) ?_
    refine pops_off (b := false) rfl rfl (by simp only [upd_at, Nat.reduceEqDiff, if_true, if_false, filtPV, infPV, g43_0]) (by decide) ?_
    refine pops_to rfl fun M hM => ?_
    simp only [pop, St.eval, constSlot, upd_at, Nat.reduceEqDiff, if_true, if_false, true_implies, false_implies, Bool.false_eq_true, reduceCtorEq, true_and, filtPV, infPV, g43_0]
    refine hM _ _ ?_
    clear hM M
    exact pops_done (hJ23 _ (wk_same (wk_any ((wk_any (Wk.refl _ _))))))
   simp only [List.drop_succ_cons, List.drop_zero, anyAt_cons, anyAt_nil]
   refine pops_mv (.inl rfl) rfl (by simp only [St.eval, upd_at, Nat.reduceEqDiff, if_true, if_false, filtPV, infPV] <;> rfl) ?_
   apply pops_and0 4 47 51 [48, 49, 50] (by simp only [upd_at, Nat.reduceEqDiff, if_true, if_false, filtPV, infPV] <;> rfl)
   ·skip
    intro g47_0 J24 hJ24
    simp only [List.take_succ_cons, List.take_zero]
    simp only [anyAt_cons, anyAt_nil] at hJ24
    refine pops_mvg (.inl rfl) rfl rfl (by simp only [upd_at, Nat.reduceEqDiff, if_true, if_false, filtPV, infPV, g47_0]) (by simp only [St.eval, upd_at, Nat.reduceEqDiff, if_true, if_false, filtPV, infPV, g47_0] <;> rfl) ?_
    refine pops_mvg (.inl rfl) rfl rfl (by simp only [upd_at, Nat.reduceEqDiff, if_true, if_false, filtPV, infPV, g47_0]) (by simp only [St.eval, upd_at, Nat.reduceEqDiff, if_true, if_false, filtPV, infPV, g47_0] <;> rfl) ?_
    refine pops_do rfl rfl (by simp only [upd_at, Nat.reduceEqDiff, if_true, if_false, filtPV, infPV, g47_0]) fun M hM => ?_
    simp only [pop, St.eval, upd_at, Nat.reduceEqDiff, if_true, if_false, popBin, binK, intK, eq_self, true_and, filtPV, infPV, g47_0]
    refine hM _ _ ?_
    clear hM M
    refine pops_to rfl fun M hM => ?_
    simp only [pop, St.eval, constSlot, upd_at, Nat.reduceEqDiff, if_true, if_false, true_implies, false_implies, Bool.true_eq_false, reduceCtorEq, and_true, filtPV, infPV, g47_0]
    refine hM _ _ ?_
    clear hM M
    exact pops_done (hJ24 _ (wk_same (wk_any ((wk_any ((wk_any (Wk.refl _ _))))))))
   ·skip
    intro g47_0 J24 hJ24
    simp only [List.take_succ_cons, List.take_zero]
    simp only [anyAt_cons, anyAt_nil] at hJ24
    refine pops_off (b := false) rfl rfl (by simp only [upd_at, Nat.reduceEqDiff, if_true, if_false, filtPV, infPV, g47_0]) (by decide) ?_
    refine pops_off (b := false) rfl rfl (by simp only [upd_at, Nat.reduceEqDiff, if_true, if_false, filtPV, infPV, g47_0]) (by decide) ?_
    refine pops_off (b := false) rfl rfl (by simp only [upd_at, Nat.reduceEqDiff, if_true, if_false, filtPV, infPV, g47_0]) (by decide) ?_
    refine pops_to rfl fun M hM => ?_
    simp only [pop, St.eval, constSlot, upd_at, Nat.reduceEqDiff, if_true, if_false, true_implies, false_implies, Bool.false_eq_true, reduceCtorEq, true_and, filtPV, infPV, g47_0]
    refine hM _ _ ?_
    clear hM M
    exact pops_done (hJ24 _ (wk_same (wk_any ((wk_any ((wk_any (Wk.refl _ _))))))))
   simp only [List.drop_succ_cons, List.drop_zero, anyAt_cons, anyAt_nil]
   refine pops_mv (.inr rfl) rfl (by simp only [St.eval, upd_at, Nat.reduceEqDiff, if_true, if_false, filtPV, infPV] <;> rfl) ?_
   refine pops_done (hR21 _ ?_)
   clear hR21 R21
   try simp only [thenK]
   refine hN20 _ ?_
   clear hN20 N20
   refine pwp_ret ?_
   simp only [bodyK]
   refine ⟨_, rfl, endFun s5 ?_⟩
   try simp only [upd_at, Nat.reduceEqDiff, if_true, if_false, filtPV, infPV]
   all_goals
    simp
end Go.Pw
