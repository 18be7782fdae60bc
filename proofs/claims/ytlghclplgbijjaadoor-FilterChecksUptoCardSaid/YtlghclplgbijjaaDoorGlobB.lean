/- Own work: part of the proof of the row YtlghclplgbijjaaDoorRowFilterChecksUpto; no condition of its own. -/
import Derived.Test.YtlghclplgbijjaaDoorGlobA
import Derived.Test.YtlghclplgbijjaaDoorGFacts
namespace Go.Pw
open Go Go.RowKit Go.Proofs
set_option maxRecDepth 100000
set_option linter.unusedSimpArgs false
set_option linter.unusedVariables false
theorem globSize_fun (W0 : World) (l : List GPart) (hl : lW l ≤ 1048576) : PFun Tryd.prog W0 22 [.one (.ro false 5 (encL l))] (.tup [.one (pint (cntL l : Nat)), .one (pint (deepL l : Nat))]) :=
  rec_parts (Q := fun l => lW l ≤ 1048576 → PFun Tryd.prog W0 22 [.one (.ro false 5 (encL l))] (.tup [.one (pint (cntL l : Nat)), .one (pint (deepL l : Nat))])) (fun l ih hl => globSize_fun1 W0 l hl ih) l hl
theorem partCount_fun (W0 : World) (l : List GPart) (hl : lW l ≤ 1048576) : PFun Tryd.prog W0 39 [.one (.ro false 5 (encL l))] (.tup [.one (pint (cntL l : Nat)), .one (pint (deepL l : Nat))]) :=
  rec_parts (Q := fun l => lW l ≤ 1048576 → PFun Tryd.prog W0 39 [.one (.ro false 5 (encL l))] (.tup [.one (pint (cntL l : Nat)), .one (pint (deepL l : Nat))])) (fun l ih hl => partCount_fun1 W0 l hl ih) l hl
theorem hasIB : Has Tryd.prog 45 := ⟨_, Tryd.func45, rfl, by kernel_rfl⟩
theorem indexByte_fun (W0 : World) (s : List UInt8) (c : UInt8) : PFun Tryd.prog W0 45 [.one (pstr s), .one (.val (.int .u8 c.toNat))] (.sv (.one (pint (Lib.indexByte s c)))) :=
  pfun_same (P := Tryd.prog) (vals := [.string ⟨s.toArray⟩, .int .u8 c.toNat]) hasIB rfl fun w _ => by
    have := Tryd.strings_IndexByte ⟨s.toArray⟩ c.toNat w
    simpa using this
theorem ix_has (s : List UInt8) (c : UInt8) : decide (Lib.indexByte s c ≥ 0) = s.contains c := by
  induction s with
  | nil => rfl
  | cons b s ih =>
    rw [Lib.indexByte, List.contains_cons]
    by_cases h : b = c
    · subst h; simp
    · have h1 : (b == c) = false := by simpa using h
      have h2 : (c == b) = false := by simpa using fun e : c = b => h e.symm
      rw [h1, h2, Bool.false_or, ← ih]
      simp only [Bool.false_eq_true, if_false]
      split
      · rename_i h3
        have h3 : Lib.indexByte s c = -1 := by simpa using h3
        rw [h3]
      · rename_i h3
        have h3 : ¬ Lib.indexByte s c = -1 := by simpa using h3
        exact decide_eq_decide.2 (by
          have := Lib.indexByte_ge s c
          omega)
theorem lenZ (n : Nat) : decide (((n : Nat) : Int) > 0) = decide (0 < n) := decide_eq_decide.2 (by omega)
theorem lenZ0 (n : Nat) : (((n : Nat) : Int) == 0) = decide (n = 0) := by rw [Bool.eq_iff_iff]; simp
theorem formBad_1 {g : GPart} (h : g.kind = 1) : formBad g = ((((g.neg || decide (0 < g.ranges.length)) || decide (0 < g.ways.length)) || !(g.text != [])) || g.text.contains 0) := by simp [formBad, h]
theorem formBad_5 {g : GPart} (h : g.kind = 5) : formBad g = (((g.text != []) || decide (0 < g.ways.length)) || decide (g.ranges.length = 0)) := by simp [formBad, h]
theorem formBad_6 {g : GPart} (h : g.kind = 6) : formBad g = (((g.text != []) || (g.neg || decide (0 < g.ranges.length))) || !decide (0 < g.ways.length)) := by simp [formBad, h]
theorem formBad_0 {g : GPart} (h1 : ¬ g.kind = 1) (h5 : ¬ g.kind = 5) (h6 : ¬ g.kind = 6) : formBad g = (((g.text != []) || (g.neg || decide (0 < g.ranges.length))) || decide (0 < g.ways.length)) := by simp [formBad, h1, h5, h6]
theorem nm90 : (Tryd.f90.name == "runtime.NumGoroutine") = false := by kernel_rfl
theorem hasByte_fun (W0 : World) (s : List UInt8) (c : UInt8) :
  PFun Tryd.prog W0 90 [.one (pstr s), .one (.val (.int .u8 c.toNat))] (.sv (.one (pbool (s.contains c)))) := by
 intro h
 refine pcalls2 (n := 9) Tryd.func90 rfl nm90 rfl fun hb => ?_
 refine pwp_then fun N1 hN1 => ?_
 refine pwp_reg fun R2 hR2 => ?_
 refine pops_mv (.inr rfl) rfl (by simp only [St.eval, constSlot] <;> rfl) ?_
 refine pops_done (hR2 _ ?_)
 clear hR2 R2
 try simp only [thenK]
 refine hN1 _ ?_
 clear hN1 N1
 refine pwp_then fun N3 hN3 => ?_
 refine pwp_reg fun R4 hR4 => ?_
 refine pops_mv (.inl rfl) rfl (by simp only [St.eval, upd_at, Nat.reduceEqDiff, if_true, if_false] <;> rfl) ?_
 refine pops_mv (.inl rfl) rfl (by simp only [St.eval, upd_at, Nat.reduceEqDiff, if_true, if_false] <;> rfl) ?_
 refine pops_to rfl fun M hM => ?_
 simp only [pop, St.eval, constSlot, upd_at, Nat.reduceEqDiff, if_true, if_false, popCall, List.map_nil, svs, List.mapM_cons, List.mapM_nil, Option.bind_eq_bind, Option.bind_some, Option.pure_def, List.append_nil]
 refine PFun.use (indexByte_fun W0 s c) fun h1 s1 => hM _ _ ?_
 replace s1 := Same.trans (Same.refl _) s1
 clear hM M
 refine pops_to rfl fun M hM => ?_
 simp only [pop, St.eval, constSlot, upd_at, Nat.reduceEqDiff, if_true, if_false, popBin, binK, intK, eq_self, true_and]
 refine hM _ _ ?_
 clear hM M
 refine pops_mv (.inr rfl) rfl (by simp only [St.eval, upd_at, Nat.reduceEqDiff, if_true, if_false] <;> rfl) ?_
 refine pops_done (hR4 _ ?_)
 clear hR4 R4
 try simp only [thenK]
 refine hN3 _ ?_
 clear hN3 N3
 refine pwp_ret ?_
 simp only [bodyK]
 refine ⟨_, rfl, endFun s1 ?_⟩
 try simp only [upd_at, Nat.reduceEqDiff, if_true, if_false]
 all_goals
  rw [ix_has]
theorem nm67 : (Tryd.f67.name == "runtime.NumGoroutine") = false := by kernel_rfl
set_option maxHeartbeats 2000000 in
theorem partForm_fun (W0 : World) (g : GPart) :
  PFun Tryd.prog W0 67 [.agg [pint g.kind, pstr g.text, pbool g.neg, .ro false 2 (rngPV g.ranges), .ro false 1 (encW g.ways)]] (.sv (.one (pint (if formBad g then 6 else 0)))) := by
 intro h
 refine pcalls1 (n := 69) Tryd.func67 rfl nm67 rfl fun hb => ?_
 refine pwp_then fun N1 hN1 => ?_
 refine pwp_reg fun R2 hR2 => ?_
 refine pops_to rfl fun M hM => ?_
 simp only [pop, St.eval, upd_at, if_true, popBox, popBoxRo, slotCells]
 refine .inr ⟨Nat.succ_pos _, hM _ _ ?_⟩
 clear hM M
 refine pops_mv (.inr rfl) rfl (by simp only [St.eval, constSlot] <;> rfl) ?_
 refine pops_done (hR2 _ ?_)
 clear hR2 R2
 try simp only [thenK]
 refine hN1 _ ?_
 clear hN1 N1
 refine pwp_then fun N3 hN3 => ?_
 refine pwp_dreg 18 mixed (by decide +kernel) fun R4 hR4 => ?_
 simp only [List.take_succ_cons, List.take_zero, List.drop_succ_cons, List.drop_zero]
 apply lex_to
 · rfl
 ·intro h' s' M hM
  simp only [pop, St.eval, upd_at, Nat.reduceEqDiff, if_true, if_false, popFieldAddr, fieldOf, List.drop_succ_cons, List.drop_zero, List.getElem?_toArray, List.getElem?_cons_zero, List.getElem?_cons_succ, Tryd.underlying64, sz9]
  exact ⟨⟨_, rfl⟩, hM _ (.refl _)⟩
 apply lex_to
 · rfl
 ·intro h' s' M hM
  simp only [pop, St.eval, upd_at, Nat.reduceEqDiff, if_true, if_false, popLoad, loadK, isAggD, Bool.false_eq_true, Tryd.underlying9, sz9, eq_self]
  exact hM _ (.refl _)
 apply lex_to
 · rfl
 ·intro h' s' M hM
  simp only [pop, St.eval, constSlot, upd_at, Nat.reduceEqDiff, if_true, if_false, popBin, binK, strK, eq_self, str_list]
  exact hM _ (.refl _)
 apply lex_to
 · rfl
 ·intro h' s' M hM
  simp only [pop, St.eval, upd_at, Nat.reduceEqDiff, if_true, if_false, popFieldAddr, fieldOf, List.drop_succ_cons, List.drop_zero, List.getElem?_toArray, List.getElem?_cons_zero, List.getElem?_cons_succ, Tryd.underlying64, sz4]
  exact ⟨⟨_, rfl⟩, hM _ (.refl _)⟩
 apply lex_to
 · rfl
 ·intro h' s' M hM
  simp only [pop, St.eval, upd_at, Nat.reduceEqDiff, if_true, if_false, popLoad, loadK, isAggD, Bool.false_eq_true, Tryd.underlying4, sz4, eq_self]
  exact hM _ (.refl _)
 apply lex_to
 · rfl
 ·intro h' s' M hM
  simp only [pop, St.eval, upd_at, Nat.reduceEqDiff, if_true, if_false, eq_self]
  exact hM _ (.refl _)
 refine lex_split 12 (by simp only [upd_at, Nat.reduceEqDiff, if_true, if_false] <;> rfl) (fun g12_0 => ?_) (fun g12_0 => ?_)
 ·skip
  refine lex_off (b := true) rfl rfl (by simp only [upd_at, Nat.reduceEqDiff, if_true, if_false, g12_0]) (by decide) ?_
  refine lex_off (b := true) rfl rfl (by simp only [upd_at, Nat.reduceEqDiff, if_true, if_false, g12_0]) (by decide) ?_
  refine lex_off (b := true) rfl rfl (by simp only [upd_at, Nat.reduceEqDiff, if_true, if_false, g12_0]) (by decide) ?_
  refine lex_off (b := true) rfl rfl (by simp only [upd_at, Nat.reduceEqDiff, if_true, if_false, g12_0]) (by decide) ?_
  apply lex_to
  · rfl
  ·intro h' s' M hM
   simp only [pop, St.eval, constSlot, upd_at, Nat.reduceEqDiff, if_true, if_false, true_implies, false_implies, Bool.true_eq_false, reduceCtorEq, and_true, g12_0]
   exact hM _ (.refl _)
  apply lex_to
  · rfl
  ·intro h' s' M hM
   simp only [pop, St.eval, upd_at, Nat.reduceEqDiff, if_true, if_false, popFieldAddr, fieldOf, List.drop_succ_cons, List.drop_zero, List.getElem?_toArray, List.getElem?_cons_zero, List.getElem?_cons_succ, Tryd.underlying64, sz62, g12_0]
   exact ⟨⟨_, rfl⟩, hM _ (.refl _)⟩
  apply lex_to
  · rfl
  ·intro h' s' M hM
   simp only [pop, St.eval, upd_at, Nat.reduceEqDiff, if_true, if_false, popLoad, loadK, isAggD, Bool.false_eq_true, Tryd.underlying62, sz62, eq_self, g12_0]
   exact hM _ (.refl _)
  apply lex_to
  · rfl
  ·intro h' s' M hM
   simp only [pop, St.eval, upd_at, Nat.reduceEqDiff, if_true, if_false, popCall, List.map_cons, List.map_nil, popBuiltin, popLen, lenOfSlot, Tryd.underlying62, eq_self, g12_0, encW_len]
   exact hM _ (.refl _)
  apply lex_to
  · rfl
  ·intro h' s' M hM
   simp only [pop, St.eval, constSlot, upd_at, Nat.reduceEqDiff, if_true, if_false, popBin, binK, intK, eq_self, true_and, g12_0]
   exact hM _ (.refl _)
  apply lex_to
  · rfl
  ·intro h' s' M hM
   simp only [pop, St.eval, upd_at, Nat.reduceEqDiff, if_true, if_false, eq_self, g12_0]
   exact hM _ (.refl _)
  apply lex_to
  · rfl
  ·intro h' s' M hM
   simp only [pop, St.eval, upd_at, Nat.reduceEqDiff, if_true, if_false, eq_self, g12_0]
   exact hM _ (.refl _)
  apply lex_to
  · rfl
  ·intro h' s' M hM
   simp only [pop, St.eval, upd_at, Nat.reduceEqDiff, if_true, if_false, eq_self, g12_0]
   exact hM _ (.refl _)
  refine lex_done fun hq sq => ?_
  skip
  refine pops_done (hR4 _ ?_)
  clear hR4 R4
  try simp only [thenK]
  refine hN3 _ ?_
  clear hN3 N3
  refine pwp_then fun N5 hN5 => ?_
  refine pwp_reg fun R6 hR6 => ?_
  refine pops_mv (.inr rfl) rfl (by simp only [St.eval, constSlot] <;> rfl) ?_
  refine pops_done (hR6 _ ?_)
  clear hR6 R6
  try simp only [thenK]
  refine hN5 _ ?_
  clear hN5 N5
  refine pwp_then fun N7 hN7 => ?_
  refine pwp_then fun N8 hN8 => ?_
  refine pwp_reg fun R9 hR9 => ?_
  refine pops_to rfl fun M hM => ?_
  simp only [pop, St.eval, upd_at, Nat.reduceEqDiff, if_true, if_false, popFieldAddr, fieldOf, List.drop_zero, List.getElem?_toArray, List.getElem?_cons_zero, Tryd.underlying64, sz3, g12_0]
  refine ⟨⟨_, rfl⟩, hM _ _ ?_⟩
  clear hM M
  refine pops_to rfl fun M hM => ?_
  simp only [pop, St.eval, upd_at, Nat.reduceEqDiff, if_true, if_false, popLoad, loadK, isAggD, Bool.false_eq_true, Tryd.underlying3, sz3, eq_self, g12_0]
  refine hM _ _ ?_
  clear hM M
  refine pops_done (hR9 _ ?_)
  clear hR9 R9
  try simp only [thenK]
  refine hN8 _ ?_
  clear hN8 N8
  refine pwp_block ?_
  refine pwp_then fun N10 hN10 => ?_
  refine pwp_reg fun R11 hR11 => ?_
  refine pops_to rfl fun M hM => ?_
  simp only [pop, St.eval, constSlot, upd_at, Nat.reduceEqDiff, if_true, if_false, popBin, binK, intK, eq_self, true_and, g12_0]
  refine hM _ _ ?_
  clear hM M
  refine pops_mv (.inr rfl) rfl (by simp only [St.eval, upd_at, Nat.reduceEqDiff, if_true, if_false, g12_0] <;> rfl) ?_
  refine pops_done (hR11 _ ?_)
  clear hR11 R11
  try simp only [thenK]
  refine hN10 _ ?_
  clear hN10 N10
  refine pwp_cond (by simp only [St.eval, upd_at, Nat.reduceEqDiff, if_true, if_false, g12_0] <;> rfl) (fun c31 => ?_) (fun c31 => ?_)
  ·skip
   have hk : g.kind = 1 := by simpa using c31
   have hfb := formBad_1 hk
   refine pwp_reg fun R12 hR12 => ?_
   refine pops_mv (.inl rfl) rfl (by simp only [St.eval, upd_at, Nat.reduceEqDiff, if_true, if_false, g12_0] <;> rfl) ?_
   refine pops_mv (.inl rfl) rfl (by simp only [St.eval, upd_at, Nat.reduceEqDiff, if_true, if_false, g12_0] <;> rfl) ?_
   refine pops_off (b := true) rfl rfl (by simp only [upd_at, Nat.reduceEqDiff, if_true, if_false, g12_0]) (by decide) ?_
   refine pops_to rfl fun M hM => ?_
   simp only [pop, St.eval, constSlot, upd_at, Nat.reduceEqDiff, if_true, if_false, true_implies, false_implies, Bool.true_eq_false, reduceCtorEq, and_true, g12_0]
   refine hM _ _ ?_
   clear hM M
   refine pops_mv (.inl rfl) rfl (by simp only [St.eval, upd_at, Nat.reduceEqDiff, if_true, if_false, g12_0] <;> rfl) ?_
   refine pops_off (b := true) rfl rfl (by simp only [upd_at, Nat.reduceEqDiff, if_true, if_false, g12_0]) (by decide) ?_
   refine pops_off (b := true) rfl rfl (by simp only [upd_at, Nat.reduceEqDiff, if_true, if_false, g12_0]) (by decide) ?_
   refine pops_to rfl fun M hM => ?_
   simp only [pop, St.eval, constSlot, upd_at, Nat.reduceEqDiff, if_true, if_false, true_implies, false_implies, Bool.true_eq_false, reduceCtorEq, and_true, g12_0]
   refine hM _ _ ?_
   clear hM M
   refine pops_mv (.inl rfl) rfl (by simp only [St.eval, upd_at, Nat.reduceEqDiff, if_true, if_false, g12_0] <;> rfl) ?_
   refine pops_off (b := true) rfl rfl (by simp only [upd_at, Nat.reduceEqDiff, if_true, if_false, g12_0]) (by decide) ?_
   refine pops_off (b := true) rfl rfl (by simp only [upd_at, Nat.reduceEqDiff, if_true, if_false, g12_0]) (by decide) ?_
   refine pops_off (b := true) rfl rfl (by simp only [upd_at, Nat.reduceEqDiff, if_true, if_false, g12_0]) (by decide) ?_
   refine pops_to rfl fun M hM => ?_
   simp only [pop, St.eval, constSlot, upd_at, Nat.reduceEqDiff, if_true, if_false, true_implies, false_implies, Bool.true_eq_false, reduceCtorEq, and_true, g12_0]
   refine hM _ _ ?_
   clear hM M
   refine pops_mv (.inr rfl) rfl (by simp only [St.eval, upd_at, Nat.reduceEqDiff, if_true, if_false, g12_0] <;> rfl) ?_
   refine pops_done (hR12 _ ?_)
   clear hR12 R12
   try simp only [blockK, thenK]
   try simp only [thenK, scopeK]
   refine hN7 _ ?_
   clear hN7 N7
   refine pwp_then fun N13 hN13 => ?_
   refine pwp_then fun N14 hN14 => ?_
   refine pwp_reg fun R15 hR15 => ?_
   refine pops_mv (.inl rfl) rfl (by simp only [St.eval, upd_at, Nat.reduceEqDiff, if_true, if_false, g12_0] <;> rfl) ?_
   refine pops_done (hR15 _ ?_)
   clear hR15 R15
   try simp only [thenK]
   refine hN14 _ ?_
   clear hN14 N14
   refine pwp_cond_true (by simp only [St.eval, upd_at, Nat.reduceEqDiff, if_true, if_false, g12_0] <;> rfl) ?_
   refine pwp_then fun N16 hN16 => ?_
   refine pwp_reg fun R17 hR17 => ?_
   refine pops_mv (.inr rfl) rfl (by simp only [St.eval, constSlot] <;> rfl) ?_
   refine pops_done (hR17 _ ?_)
   clear hR17 R17
   try simp only [thenK]
   refine hN16 _ ?_
   clear hN16 N16
   refine pwp_ret ?_
   simp only [thenK, bodyK]
   clear hN13 N13
   refine ⟨_, rfl, endFun sq ?_⟩
   try simp only [upd_at, Nat.reduceEqDiff, if_true, if_false, g12_0]
   all_goals
    first
      | (rw [hb6]; rfl)
      | (rw [show formBad g = true by rw [hfb]; simp_all]; rfl)
  ·skip
   have hk1 : ¬ g.kind = 1 := by simpa using c31
   refine pwp_then fun N18 hN18 => ?_
   refine pwp_reg fun R19 hR19 => ?_
   refine pops_to rfl fun M hM => ?_
   simp only [pop, St.eval, constSlot, upd_at, Nat.reduceEqDiff, if_true, if_false, popBin, binK, intK, eq_self, true_and, g12_0]
   refine hM _ _ ?_
   clear hM M
   refine pops_mv (.inr rfl) rfl (by simp only [St.eval, upd_at, Nat.reduceEqDiff, if_true, if_false, g12_0] <;> rfl) ?_
   refine pops_done (hR19 _ ?_)
   clear hR19 R19
   try simp only [thenK]
   refine hN18 _ ?_
   clear hN18 N18
   refine pwp_cond (by simp only [St.eval, upd_at, Nat.reduceEqDiff, if_true, if_false, g12_0] <;> rfl) (fun c46 => ?_) (fun c46 => ?_)
   ·skip
    have hk : g.kind = 5 := by simpa using c46
    have hfb := formBad_5 hk
    refine pwp_reg fun R20 hR20 => ?_
    refine pops_mv (.inl rfl) rfl (by simp only [St.eval, upd_at, Nat.reduceEqDiff, if_true, if_false, g12_0] <;> rfl) ?_
    refine pops_mv (.inl rfl) rfl (by simp only [St.eval, upd_at, Nat.reduceEqDiff, if_true, if_false, g12_0] <;> rfl) ?_
    apply pops_or0 2 49 51 [50] (by simp only [upd_at, Nat.reduceEqDiff, if_true, if_false, g12_0] <;> rfl)
    ·skip
     intro g49_1 J21 hJ21
     simp only [List.take_succ_cons, List.take_zero]
     simp only [anyAt_cons, anyAt_nil] at hJ21
     refine pops_mvg (.inl rfl) rfl rfl (by simp only [upd_at, Nat.reduceEqDiff, if_true, if_false, g12_0, g49_1]) (by simp only [St.eval, upd_at, Nat.reduceEqDiff, if_true, if_false, g12_0, g49_1] <;> rfl) ?_
     refine pops_to rfl fun M hM => ?_
     simp only [pop, St.eval, constSlot, upd_at, Nat.reduceEqDiff, if_true, if_false, true_implies, false_implies, Bool.false_eq_true, reduceCtorEq, true_and, g12_0, g49_1]
     refine hM _ _ ?_
     clear hM M
     exact pops_done (hJ21 _ (wk_same (wk_any (Wk.refl _ _))))
    ·skip
     intro g49_1 J21 hJ21
     simp only [List.take_succ_cons, List.take_zero]
     simp only [anyAt_cons, anyAt_nil] at hJ21
     refine pops_off (b := true) rfl rfl (by simp only [upd_at, Nat.reduceEqDiff, if_true, if_false, g12_0, g49_1]) (by decide) ?_
     refine pops_to rfl fun M hM => ?_
     simp only [pop, St.eval, constSlot, upd_at, Nat.reduceEqDiff, if_true, if_false, true_implies, false_implies, Bool.true_eq_false, reduceCtorEq, and_true, g12_0, g49_1]
     refine hM _ _ ?_
     clear hM M
     exact pops_done (hJ21 _ (wk_same (wk_any (Wk.refl _ _))))
    simp only [List.drop_succ_cons, List.drop_zero, anyAt_cons, anyAt_nil]
    refine pops_mv (.inl rfl) rfl (by simp only [St.eval, upd_at, Nat.reduceEqDiff, if_true, if_false, g12_0] <;> rfl) ?_
    apply pops_or0 5 52 57 [53, 54, 55, 56] (by simp only [upd_at, Nat.reduceEqDiff, if_true, if_false, g12_0] <;> rfl)
    ·skip
     intro g52_1 J22 hJ22
     simp only [List.take_succ_cons, List.take_zero]
     simp only [anyAt_cons, anyAt_nil] at hJ22
     refine pops_do rfl rfl (by simp only [upd_at, Nat.reduceEqDiff, if_true, if_false, g12_0, g52_1]) fun M hM => ?_
     simp only [pop, St.eval, upd_at, Nat.reduceEqDiff, if_true, if_false, popFieldAddr, fieldOf, List.drop_succ_cons, List.drop_zero, List.getElem?_toArray, List.getElem?_cons_zero, List.getElem?_cons_succ, Tryd.underlying64, sz61, g12_0, g52_1]
     refine ⟨⟨_, rfl⟩, hM _ _ ?_⟩
     clear hM M
     refine pops_do rfl rfl (by simp only [upd_at, Nat.reduceEqDiff, if_true, if_false, g12_0, g52_1]) fun M hM => ?_
     simp only [pop, St.eval, upd_at, Nat.reduceEqDiff, if_true, if_false, popLoad, loadK, isAggD, Bool.false_eq_true, Tryd.underlying61, sz61, eq_self, g12_0, g52_1]
     refine hM _ _ ?_
     clear hM M
     refine pops_do rfl rfl (by simp only [upd_at, Nat.reduceEqDiff, if_true, if_false, g12_0, g52_1]) fun M hM => ?_
     simp only [pop, St.eval, upd_at, Nat.reduceEqDiff, if_true, if_false, popCall, List.map_cons, List.map_nil, popBuiltin, popLen, lenOfSlot, List.length_map, Tryd.underlying61, eq_self, g12_0, g52_1, List.length_map]
     refine hM _ _ ?_
     clear hM M
     refine pops_do rfl rfl (by simp only [upd_at, Nat.reduceEqDiff, if_true, if_false, g12_0, g52_1]) fun M hM => ?_
     simp only [pop, St.eval, constSlot, upd_at, Nat.reduceEqDiff, if_true, if_false, popBin, binK, intK, eq_self, true_and, g12_0, g52_1]
     refine hM _ _ ?_
     clear hM M
     refine pops_to rfl fun M hM => ?_
     simp only [pop, St.eval, constSlot, upd_at, Nat.reduceEqDiff, if_true, if_false, true_implies, false_implies, Bool.false_eq_true, reduceCtorEq, true_and, g12_0, g52_1]
     refine hM _ _ ?_
     clear hM M
     exact pops_done (hJ22 _ (wk_same (wk_any ((wk_any ((wk_any ((wk_any (Wk.refl _ _))))))))))
    ·skip
     intro g52_1 J22 hJ22
     simp only [List.take_succ_cons, List.take_zero]
     simp only [anyAt_cons, anyAt_nil] at hJ22
     refine pops_off (b := true) rfl rfl (by simp only [upd_at, Nat.reduceEqDiff, if_true, if_false, g12_0, g52_1]) (by decide) ?_
     refine pops_off (b := true) rfl rfl (by simp only [upd_at, Nat.reduceEqDiff, if_true, if_false, g12_0, g52_1]) (by decide) ?_
     refine pops_off (b := true) rfl rfl (by simp only [upd_at, Nat.reduceEqDiff, if_true, if_false, g12_0, g52_1]) (by decide) ?_
     refine pops_off (b := true) rfl rfl (by simp only [upd_at, Nat.reduceEqDiff, if_true, if_false, g12_0, g52_1]) (by decide) ?_
     refine pops_to rfl fun M hM => ?_
     simp only [pop, St.eval, constSlot, upd_at, Nat.reduceEqDiff, if_true, if_false, true_implies, false_implies, Bool.true_eq_false, reduceCtorEq, and_true, g12_0, g52_1]
     refine hM _ _ ?_
     clear hM M
     exact pops_done (hJ22 _ (wk_same (wk_any ((wk_any ((wk_any ((wk_any (Wk.refl _ _))))))))))
    simp only [List.drop_succ_cons, List.drop_zero, anyAt_cons, anyAt_nil]
    refine pops_mv (.inr rfl) rfl (by simp only [St.eval, upd_at, Nat.reduceEqDiff, if_true, if_false, g12_0] <;> rfl) ?_
    refine pops_done (hR20 _ ?_)
    clear hR20 R20
    try simp only [blockK, thenK]
    try simp only [thenK, scopeK]
    refine hN7 _ ?_
    clear hN7 N7
    refine pwp_then fun N23 hN23 => ?_
    refine pwp_then fun N24 hN24 => ?_
    refine pwp_reg fun R25 hR25 => ?_
    refine pops_mv (.inl rfl) rfl (by simp only [St.eval, upd_at, Nat.reduceEqDiff, if_true, if_false, g12_0] <;> rfl) ?_
    refine pops_done (hR25 _ ?_)
    clear hR25 R25
    try simp only [thenK]
    refine hN24 _ ?_
    clear hN24 N24
    refine pwp_cond (by simp only [St.eval, upd_at, Nat.reduceEqDiff, if_true, if_false, g12_0] <;> rfl) (fun c68 => ?_) (fun c68 => ?_)
    ·skip
     have hb6 : formBad g = true := by rw [hfb]; first | (simp [*]; done) | (simp [lenZ0, *] at c68; done) | simpa [lenZ, lenZ0, *] using c68
     refine pwp_then fun N26 hN26 => ?_
     refine pwp_reg fun R27 hR27 => ?_
     refine pops_mv (.inr rfl) rfl (by simp only [St.eval, constSlot] <;> rfl) ?_
     refine pops_done (hR27 _ ?_)
     clear hR27 R27
     try simp only [thenK]
     refine hN26 _ ?_
     clear hN26 N26
     refine pwp_ret ?_
     simp only [thenK, bodyK]
     clear hN23 N23
     refine ⟨_, rfl, endFun sq ?_⟩
     try simp only [upd_at, Nat.reduceEqDiff, if_true, if_false, g12_0]
     all_goals
      first
        | (rw [hb6]; rfl)
        | (rw [show formBad g = true by rw [hfb]; simp_all]; rfl)
    ·skip
     have hb6 : formBad g = false := by rw [hfb]; first | (simp [*]; done) | (simp [lenZ0, *] at c68; done) | simpa [lenZ, lenZ0, *] using c68
     refine pwp_skip ?_
     try simp only [thenK]
     refine hN23 _ ?_
     clear hN23 N23
     refine pwp_then fun N28 hN28 => ?_
     refine pwp_reg fun R29 hR29 => ?_
     refine pops_mv (.inr rfl) rfl (by simp only [St.eval, constSlot] <;> rfl) ?_
     refine pops_done (hR29 _ ?_)
     clear hR29 R29
     try simp only [thenK]
     refine hN28 _ ?_
     clear hN28 N28
     refine pwp_ret ?_
     simp only [bodyK]
     refine ⟨_, rfl, endFun sq ?_⟩
     try simp only [upd_at, Nat.reduceEqDiff, if_true, if_false, g12_0]
     all_goals
      first
        | (rw [hb6]; rfl)
        | (rw [show formBad g = true by rw [hfb]; simp_all]; rfl)
   ·skip
    have hk5 : ¬ g.kind = 5 := by simpa using c46
    refine pwp_then fun N30 hN30 => ?_
    refine pwp_reg fun R31 hR31 => ?_
    refine pops_to rfl fun M hM => ?_
    simp only [pop, St.eval, constSlot, upd_at, Nat.reduceEqDiff, if_true, if_false, popBin, binK, intK, eq_self, true_and, g12_0]
    refine hM _ _ ?_
    clear hM M
    refine pops_mv (.inr rfl) rfl (by simp only [St.eval, upd_at, Nat.reduceEqDiff, if_true, if_false, g12_0] <;> rfl) ?_
    refine pops_done (hR31 _ ?_)
    clear hR31 R31
    try simp only [thenK]
    refine hN30 _ ?_
    clear hN30 N30
    refine pwp_cond (by simp only [St.eval, upd_at, Nat.reduceEqDiff, if_true, if_false, g12_0] <;> rfl) (fun c58 => ?_) (fun c58 => ?_)
    ·skip
     have hk : g.kind = 6 := by simpa using c58
     have hfb := formBad_6 hk
     refine pwp_reg fun R32 hR32 => ?_
     refine pops_mv (.inl rfl) rfl (by simp only [St.eval, upd_at, Nat.reduceEqDiff, if_true, if_false, g12_0] <;> rfl) ?_
     refine pops_mv (.inl rfl) rfl (by simp only [St.eval, upd_at, Nat.reduceEqDiff, if_true, if_false, g12_0] <;> rfl) ?_
     apply pops_or0 2 61 63 [62] (by simp only [upd_at, Nat.reduceEqDiff, if_true, if_false, g12_0] <;> rfl)
     ·skip
      intro g61_1 J33 hJ33
      simp only [List.take_succ_cons, List.take_zero]
      simp only [anyAt_cons, anyAt_nil] at hJ33
      refine pops_mvg (.inl rfl) rfl rfl (by simp only [upd_at, Nat.reduceEqDiff, if_true, if_false, g12_0, g61_1]) (by simp only [St.eval, upd_at, Nat.reduceEqDiff, if_true, if_false, g12_0, g61_1] <;> rfl) ?_
      refine pops_to rfl fun M hM => ?_
      simp only [pop, St.eval, constSlot, upd_at, Nat.reduceEqDiff, if_true, if_false, true_implies, false_implies, Bool.false_eq_true, reduceCtorEq, true_and, g12_0, g61_1]
      refine hM _ _ ?_
      clear hM M
      exact pops_done (hJ33 _ (wk_same (wk_any (Wk.refl _ _))))
     ·skip
      intro g61_1 J33 hJ33
      simp only [List.take_succ_cons, List.take_zero]
      simp only [anyAt_cons, anyAt_nil] at hJ33
      refine pops_off (b := true) rfl rfl (by simp only [upd_at, Nat.reduceEqDiff, if_true, if_false, g12_0, g61_1]) (by decide) ?_
      refine pops_to rfl fun M hM => ?_
      simp only [pop, St.eval, constSlot, upd_at, Nat.reduceEqDiff, if_true, if_false, true_implies, false_implies, Bool.true_eq_false, reduceCtorEq, and_true, g12_0, g61_1]
      refine hM _ _ ?_
      clear hM M
      exact pops_done (hJ33 _ (wk_same (wk_any (Wk.refl _ _))))
     simp only [List.drop_succ_cons, List.drop_zero, anyAt_cons, anyAt_nil]
     refine pops_mv (.inl rfl) rfl (by simp only [St.eval, upd_at, Nat.reduceEqDiff, if_true, if_false, g12_0] <;> rfl) ?_
     apply pops_or0 3 64 67 [65, 66] (by simp only [upd_at, Nat.reduceEqDiff, if_true, if_false, g12_0] <;> rfl)
     ·skip
      intro g64_1 J34 hJ34
      simp only [List.take_succ_cons, List.take_zero]
      simp only [anyAt_cons, anyAt_nil] at hJ34
      refine pops_mvg (.inl rfl) rfl rfl (by simp only [upd_at, Nat.reduceEqDiff, if_true, if_false, g12_0, g64_1]) (by simp only [St.eval, upd_at, Nat.reduceEqDiff, if_true, if_false, g12_0, g64_1] <;> rfl) ?_
      refine pops_do rfl rfl (by simp only [upd_at, Nat.reduceEqDiff, if_true, if_false, g12_0, g64_1]) fun M hM => ?_
      simp only [pop, St.eval, upd_at, Nat.reduceEqDiff, if_true, if_false, unK, g12_0, g64_1]
      refine hM _ _ ?_
      clear hM M
      refine pops_to rfl fun M hM => ?_
      simp only [pop, St.eval, constSlot, upd_at, Nat.reduceEqDiff, if_true, if_false, true_implies, false_implies, Bool.false_eq_true, reduceCtorEq, true_and, g12_0, g64_1]
      refine hM _ _ ?_
      clear hM M
      exact pops_done (hJ34 _ (wk_same (wk_any ((wk_any (Wk.refl _ _))))))
     ·skip
      intro g64_1 J34 hJ34
      simp only [List.take_succ_cons, List.take_zero]
      simp only [anyAt_cons, anyAt_nil] at hJ34
      refine pops_off (b := true) rfl rfl (by simp only [upd_at, Nat.reduceEqDiff, if_true, if_false, g12_0, g64_1]) (by decide) ?_
      refine pops_off (b := true) rfl rfl (by simp only [upd_at, Nat.reduceEqDiff, if_true, if_false, g12_0, g64_1]) (by decide) ?_
      refine pops_to rfl fun M hM => ?_
      simp only [pop, St.eval, constSlot, upd_at, Nat.reduceEqDiff, if_true, if_false, true_implies, false_implies, Bool.true_eq_false, reduceCtorEq, and_true, g12_0, g64_1]
      refine hM _ _ ?_
      clear hM M
      exact pops_done (hJ34 _ (wk_same (wk_any ((wk_any (Wk.refl _ _))))))
     simp only [List.drop_succ_cons, List.drop_zero, anyAt_cons, anyAt_nil]
     refine pops_mv (.inr rfl) rfl (by simp only [St.eval, upd_at, Nat.reduceEqDiff, if_true, if_false, g12_0] <;> rfl) ?_
     refine pops_done (hR32 _ ?_)
     clear hR32 R32
     try simp only [blockK, thenK]
     try simp only [thenK, scopeK]
     refine hN7 _ ?_
     clear hN7 N7
     refine pwp_then fun N35 hN35 => ?_
     refine pwp_then fun N36 hN36 => ?_
     refine pwp_reg fun R37 hR37 => ?_
     refine pops_mv (.inl rfl) rfl (by simp only [St.eval, upd_at, Nat.reduceEqDiff, if_true, if_false, g12_0] <;> rfl) ?_
     refine pops_done (hR37 _ ?_)
     clear hR37 R37
     try simp only [thenK]
     refine hN36 _ ?_
     clear hN36 N36
     refine pwp_cond (by simp only [St.eval, upd_at, Nat.reduceEqDiff, if_true, if_false, g12_0] <;> rfl) (fun c68 => ?_) (fun c68 => ?_)
     ·skip
      have hb6 : formBad g = true := by rw [hfb]; first | (simp [*]; done) | (simp [lenZ, lenZ0, *] at c68; done) | simpa [lenZ, lenZ0, *] using c68
      refine pwp_then fun N38 hN38 => ?_
      refine pwp_reg fun R39 hR39 => ?_
      refine pops_mv (.inr rfl) rfl (by simp only [St.eval, constSlot] <;> rfl) ?_
      refine pops_done (hR39 _ ?_)
      clear hR39 R39
      try simp only [thenK]
      refine hN38 _ ?_
      clear hN38 N38
      refine pwp_ret ?_
      simp only [thenK, bodyK]
      clear hN35 N35
      refine ⟨_, rfl, endFun sq ?_⟩
      try simp only [upd_at, Nat.reduceEqDiff, if_true, if_false, g12_0]
      all_goals
       first
         | (rw [hb6]; rfl)
         | (rw [show formBad g = true by rw [hfb]; simp_all]; rfl)
     ·skip
      have hb6 : formBad g = false := by rw [hfb]; first | (simp [*]; done) | (simp [*] at c68; done) | simpa [lenZ, lenZ0, *] using c68
      refine pwp_skip ?_
      try simp only [thenK]
      refine hN35 _ ?_
      clear hN35 N35
      refine pwp_then fun N40 hN40 => ?_
      refine pwp_reg fun R41 hR41 => ?_
      refine pops_mv (.inr rfl) rfl (by simp only [St.eval, constSlot] <;> rfl) ?_
      refine pops_done (hR41 _ ?_)
      clear hR41 R41
      try simp only [thenK]
      refine hN40 _ ?_
      clear hN40 N40
      refine pwp_ret ?_
      simp only [bodyK]
      refine ⟨_, rfl, endFun sq ?_⟩
      try simp only [upd_at, Nat.reduceEqDiff, if_true, if_false, g12_0]
      all_goals
       first
         | (rw [hb6]; rfl)
         | (rw [show formBad g = true by rw [hfb]; simp_all]; rfl)
    ·skip
     have hk6 : ¬ g.kind = 6 := by simpa using c58
     have hfb := formBad_0 hk1 hk5 hk6
     refine pwp_reg fun R42 hR42 => ?_
     refine pops_mv (.inl rfl) rfl (by simp only [St.eval, upd_at, Nat.reduceEqDiff, if_true, if_false, g12_0] <;> rfl) ?_
     refine pops_mv (.inl rfl) rfl (by simp only [St.eval, upd_at, Nat.reduceEqDiff, if_true, if_false, g12_0] <;> rfl) ?_
     apply pops_or0 2 25 27 [26] (by simp only [upd_at, Nat.reduceEqDiff, if_true, if_false, g12_0] <;> rfl)
     ·skip
      intro g25_1 J43 hJ43
      simp only [List.take_succ_cons, List.take_zero]
      simp only [anyAt_cons, anyAt_nil] at hJ43
      refine pops_mvg (.inl rfl) rfl rfl (by simp only [upd_at, Nat.reduceEqDiff, if_true, if_false, g12_0, g25_1]) (by simp only [St.eval, upd_at, Nat.reduceEqDiff, if_true, if_false, g12_0, g25_1] <;> rfl) ?_
      refine pops_to rfl fun M hM => ?_
      simp only [pop, St.eval, constSlot, upd_at, Nat.reduceEqDiff, if_true, if_false, true_implies, false_implies, Bool.false_eq_true, reduceCtorEq, true_and, g12_0, g25_1]
      refine hM _ _ ?_
      clear hM M
      exact pops_done (hJ43 _ (wk_same (wk_any (Wk.refl _ _))))
     ·skip
      intro g25_1 J43 hJ43
      simp only [List.take_succ_cons, List.take_zero]
      simp only [anyAt_cons, anyAt_nil] at hJ43
      refine pops_off (b := true) rfl rfl (by simp only [upd_at, Nat.reduceEqDiff, if_true, if_false, g12_0, g25_1]) (by decide) ?_
      refine pops_to rfl fun M hM => ?_
      simp only [pop, St.eval, constSlot, upd_at, Nat.reduceEqDiff, if_true, if_false, true_implies, false_implies, Bool.true_eq_false, reduceCtorEq, and_true, g12_0, g25_1]
      refine hM _ _ ?_
      clear hM M
      exact pops_done (hJ43 _ (wk_same (wk_any (Wk.refl _ _))))
     simp only [List.drop_succ_cons, List.drop_zero, anyAt_cons, anyAt_nil]
     refine pops_mv (.inl rfl) rfl (by simp only [St.eval, upd_at, Nat.reduceEqDiff, if_true, if_false, g12_0] <;> rfl) ?_
     apply pops_or0 2 28 30 [29] (by simp only [upd_at, Nat.reduceEqDiff, if_true, if_false, g12_0] <;> rfl)
     ·skip
      intro g28_1 J44 hJ44
      simp only [List.take_succ_cons, List.take_zero]
      simp only [anyAt_cons, anyAt_nil] at hJ44
      refine pops_mvg (.inl rfl) rfl rfl (by simp only [upd_at, Nat.reduceEqDiff, if_true, if_false, g12_0, g28_1]) (by simp only [St.eval, upd_at, Nat.reduceEqDiff, if_true, if_false, g12_0, g28_1] <;> rfl) ?_
      refine pops_to rfl fun M hM => ?_
      simp only [pop, St.eval, constSlot, upd_at, Nat.reduceEqDiff, if_true, if_false, true_implies, false_implies, Bool.false_eq_true, reduceCtorEq, true_and, g12_0, g28_1]
      refine hM _ _ ?_
      clear hM M
      exact pops_done (hJ44 _ (wk_same (wk_any (Wk.refl _ _))))
     ·skip
      intro g28_1 J44 hJ44
      simp only [List.take_succ_cons, List.take_zero]
      simp only [anyAt_cons, anyAt_nil] at hJ44
      refine pops_off (b := true) rfl rfl (by simp only [upd_at, Nat.reduceEqDiff, if_true, if_false, g12_0, g28_1]) (by decide) ?_
      refine pops_to rfl fun M hM => ?_
      simp only [pop, St.eval, constSlot, upd_at, Nat.reduceEqDiff, if_true, if_false, true_implies, false_implies, Bool.true_eq_false, reduceCtorEq, and_true, g12_0, g28_1]
      refine hM _ _ ?_
      clear hM M
      exact pops_done (hJ44 _ (wk_same (wk_any (Wk.refl _ _))))
     simp only [List.drop_succ_cons, List.drop_zero, anyAt_cons, anyAt_nil]
     refine pops_mv (.inr rfl) rfl (by simp only [St.eval, upd_at, Nat.reduceEqDiff, if_true, if_false, g12_0] <;> rfl) ?_
     refine pops_done (hR42 _ ?_)
     clear hR42 R42
     try simp only [blockK, thenK]
     try simp only [thenK, scopeK]
     refine hN7 _ ?_
     clear hN7 N7
     refine pwp_then fun N45 hN45 => ?_
     refine pwp_then fun N46 hN46 => ?_
     refine pwp_reg fun R47 hR47 => ?_
     refine pops_mv (.inl rfl) rfl (by simp only [St.eval, upd_at, Nat.reduceEqDiff, if_true, if_false, g12_0] <;> rfl) ?_
     refine pops_done (hR47 _ ?_)
     clear hR47 R47
     try simp only [thenK]
     refine hN46 _ ?_
     clear hN46 N46
     refine pwp_cond (by simp only [St.eval, upd_at, Nat.reduceEqDiff, if_true, if_false, g12_0] <;> rfl) (fun c68 => ?_) (fun c68 => ?_)
     ·skip
      have hb6 : formBad g = true := by rw [hfb]; first | (simp [*]; done) | (simp [lenZ, lenZ0, *] at c68; done) | simpa [lenZ, lenZ0, *] using c68
      refine pwp_then fun N48 hN48 => ?_
      refine pwp_reg fun R49 hR49 => ?_
      refine pops_mv (.inr rfl) rfl (by simp only [St.eval, constSlot] <;> rfl) ?_
      refine pops_done (hR49 _ ?_)
      clear hR49 R49
      try simp only [thenK]
      refine hN48 _ ?_
      clear hN48 N48
      refine pwp_ret ?_
      simp only [thenK, bodyK]
      clear hN45 N45
      refine ⟨_, rfl, endFun sq ?_⟩
      try simp only [upd_at, Nat.reduceEqDiff, if_true, if_false, g12_0]
      all_goals
       first
         | (rw [hb6]; rfl)
         | (rw [show formBad g = true by rw [hfb]; simp_all]; rfl)
     ·skip
      have hb6 : formBad g = false := by rw [hfb]; first | (simp [*]; done) | (simp [*] at c68; done) | simpa [lenZ, lenZ0, *] using c68
      refine pwp_skip ?_
      try simp only [thenK]
      refine hN45 _ ?_
      clear hN45 N45
      refine pwp_then fun N50 hN50 => ?_
      refine pwp_reg fun R51 hR51 => ?_
      refine pops_mv (.inr rfl) rfl (by simp only [St.eval, constSlot] <;> rfl) ?_
      refine pops_done (hR51 _ ?_)
      clear hR51 R51
      try simp only [thenK]
      refine hN50 _ ?_
      clear hN50 N50
      refine pwp_ret ?_
      simp only [bodyK]
      refine ⟨_, rfl, endFun sq ?_⟩
      try simp only [upd_at, Nat.reduceEqDiff, if_true, if_false, g12_0]
      all_goals
       first
         | (rw [hb6]; rfl)
         | (rw [show formBad g = true by rw [hfb]; simp_all]; rfl)
 ·skip
  apply lex_do
  · rfl
  · rfl
  · simp only [upd_at, Nat.reduceEqDiff, if_true, if_false, g12_0]
  ·intro h' s' M hM
   simp only [pop, St.eval, upd_at, Nat.reduceEqDiff, if_true, if_false, popFieldAddr, fieldOf, List.drop_succ_cons, List.drop_zero, List.getElem?_toArray, List.getElem?_cons_zero, List.getElem?_cons_succ, Tryd.underlying64, sz61, g12_0]
   exact ⟨⟨_, rfl⟩, hM _ (.refl _)⟩
  apply lex_do
  · rfl
  · rfl
  · simp only [upd_at, Nat.reduceEqDiff, if_true, if_false, g12_0]
  ·intro h' s' M hM
   simp only [pop, St.eval, upd_at, Nat.reduceEqDiff, if_true, if_false, popLoad, loadK, isAggD, Bool.false_eq_true, Tryd.underlying61, sz61, eq_self, g12_0]
   exact hM _ (.refl _)
  apply lex_do
  · rfl
  · rfl
  · simp only [upd_at, Nat.reduceEqDiff, if_true, if_false, g12_0]
  ·intro h' s' M hM
   simp only [pop, St.eval, upd_at, Nat.reduceEqDiff, if_true, if_false, popCall, List.map_cons, List.map_nil, popBuiltin, popLen, lenOfSlot, List.length_map, Tryd.underlying61, eq_self, g12_0, List.length_map]
   exact hM _ (.refl _)
  apply lex_do
  · rfl
  · rfl
  · simp only [upd_at, Nat.reduceEqDiff, if_true, if_false, g12_0]
  ·intro h' s' M hM
   simp only [pop, St.eval, constSlot, upd_at, Nat.reduceEqDiff, if_true, if_false, popBin, binK, intK, eq_self, true_and, g12_0]
   exact hM _ (.refl _)
  apply lex_to
  · rfl
  ·intro h' s' M hM
   simp only [pop, St.eval, constSlot, upd_at, Nat.reduceEqDiff, if_true, if_false, true_implies, false_implies, Bool.false_eq_true, reduceCtorEq, true_and, g12_0]
   exact hM _ (.refl _)
  apply lex_to
  · rfl
  ·intro h' s' M hM
   simp only [pop, St.eval, upd_at, Nat.reduceEqDiff, if_true, if_false, popFieldAddr, fieldOf, List.drop_succ_cons, List.drop_zero, List.getElem?_toArray, List.getElem?_cons_zero, List.getElem?_cons_succ, Tryd.underlying64, sz62, g12_0]
   exact ⟨⟨_, rfl⟩, hM _ (.refl _)⟩
  apply lex_to
  · rfl
  ·intro h' s' M hM
   simp only [pop, St.eval, upd_at, Nat.reduceEqDiff, if_true, if_false, popLoad, loadK, isAggD, Bool.false_eq_true, Tryd.underlying62, sz62, eq_self, g12_0]
   exact hM _ (.refl _)
  apply lex_to
  · rfl
  ·intro h' s' M hM
   simp only [pop, St.eval, upd_at, Nat.reduceEqDiff, if_true, if_false, popCall, List.map_cons, List.map_nil, popBuiltin, popLen, lenOfSlot, Tryd.underlying62, eq_self, g12_0, encW_len]
   exact hM _ (.refl _)
  apply lex_to
  · rfl
  ·intro h' s' M hM
   simp only [pop, St.eval, constSlot, upd_at, Nat.reduceEqDiff, if_true, if_false, popBin, binK, intK, eq_self, true_and, g12_0]
   exact hM _ (.refl _)
  apply lex_to
  · rfl
  ·intro h' s' M hM
   simp only [pop, St.eval, upd_at, Nat.reduceEqDiff, if_true, if_false, eq_self, g12_0]
   exact hM _ (.refl _)
  apply lex_to
  · rfl
  ·intro h' s' M hM
   simp only [pop, St.eval, upd_at, Nat.reduceEqDiff, if_true, if_false, eq_self, g12_0]
   exact hM _ (.refl _)
  apply lex_to
  · rfl
  ·intro h' s' M hM
   simp only [pop, St.eval, upd_at, Nat.reduceEqDiff, if_true, if_false, eq_self, g12_0]
   exact hM _ (.refl _)
  refine lex_done fun hq2 sq2 => ?_
  skip
  refine pops_done (hR4 _ ?_)
  clear hR4 R4
  try simp only [thenK]
  refine hN3 _ ?_
  clear hN3 N3
  refine pwp_then fun N52 hN52 => ?_
  refine pwp_reg fun R53 hR53 => ?_
  refine pops_mv (.inr rfl) rfl (by simp only [St.eval, constSlot] <;> rfl) ?_
  refine pops_done (hR53 _ ?_)
  clear hR53 R53
  try simp only [thenK]
  refine hN52 _ ?_
  clear hN52 N52
  refine pwp_then fun N54 hN54 => ?_
  refine pwp_then fun N55 hN55 => ?_
  refine pwp_reg fun R56 hR56 => ?_
  refine pops_to rfl fun M hM => ?_
  simp only [pop, St.eval, upd_at, Nat.reduceEqDiff, if_true, if_false, popFieldAddr, fieldOf, List.drop_zero, List.getElem?_toArray, List.getElem?_cons_zero, Tryd.underlying64, sz3, g12_0]
  refine ⟨⟨_, rfl⟩, hM _ _ ?_⟩
  clear hM M
  refine pops_to rfl fun M hM => ?_
  simp only [pop, St.eval, upd_at, Nat.reduceEqDiff, if_true, if_false, popLoad, loadK, isAggD, Bool.false_eq_true, Tryd.underlying3, sz3, eq_self, g12_0]
  refine hM _ _ ?_
  clear hM M
  refine pops_done (hR56 _ ?_)
  clear hR56 R56
  try simp only [thenK]
  refine hN55 _ ?_
  clear hN55 N55
  refine pwp_block ?_
  refine pwp_then fun N57 hN57 => ?_
  refine pwp_reg fun R58 hR58 => ?_
  refine pops_to rfl fun M hM => ?_
  simp only [pop, St.eval, constSlot, upd_at, Nat.reduceEqDiff, if_true, if_false, popBin, binK, intK, eq_self, true_and, g12_0]
  refine hM _ _ ?_
  clear hM M
  refine pops_mv (.inr rfl) rfl (by simp only [St.eval, upd_at, Nat.reduceEqDiff, if_true, if_false, g12_0] <;> rfl) ?_
  refine pops_done (hR58 _ ?_)
  clear hR58 R58
  try simp only [thenK]
  refine hN57 _ ?_
  clear hN57 N57
  refine pwp_cond (by simp only [St.eval, upd_at, Nat.reduceEqDiff, if_true, if_false, g12_0] <;> rfl) (fun c31 => ?_) (fun c31 => ?_)
  ·skip
   have hk : g.kind = 1 := by simpa using c31
   have hfb := formBad_1 hk
   refine pwp_reg fun R59 hR59 => ?_
   refine pops_mv (.inl rfl) rfl (by simp only [St.eval, upd_at, Nat.reduceEqDiff, if_true, if_false, g12_0] <;> rfl) ?_
   refine pops_mv (.inl rfl) rfl (by simp only [St.eval, upd_at, Nat.reduceEqDiff, if_true, if_false, g12_0] <;> rfl) ?_
   apply pops_or0 2 34 36 [35] (by simp only [upd_at, Nat.reduceEqDiff, if_true, if_false, g12_0] <;> rfl)
   ·skip
    intro g34_1 J60 hJ60
    simp only [List.take_succ_cons, List.take_zero]
    simp only [anyAt_cons, anyAt_nil] at hJ60
    refine pops_mvg (.inl rfl) rfl rfl (by simp only [upd_at, Nat.reduceEqDiff, if_true, if_false, g12_0, g34_1]) (by simp only [St.eval, upd_at, Nat.reduceEqDiff, if_true, if_false, g12_0, g34_1] <;> rfl) ?_
    refine pops_to rfl fun M hM => ?_
    simp only [pop, St.eval, constSlot, upd_at, Nat.reduceEqDiff, if_true, if_false, true_implies, false_implies, Bool.false_eq_true, reduceCtorEq, true_and, g12_0, g34_1]
    refine hM _ _ ?_
    clear hM M
    exact pops_done (hJ60 _ (wk_same (wk_any (Wk.refl _ _))))
   ·skip
    intro g34_1 J60 hJ60
    simp only [List.take_succ_cons, List.take_zero]
    simp only [anyAt_cons, anyAt_nil] at hJ60
    refine pops_off (b := true) rfl rfl (by simp only [upd_at, Nat.reduceEqDiff, if_true, if_false, g12_0, g34_1]) (by decide) ?_
    refine pops_to rfl fun M hM => ?_
    simp only [pop, St.eval, constSlot, upd_at, Nat.reduceEqDiff, if_true, if_false, true_implies, false_implies, Bool.true_eq_false, reduceCtorEq, and_true, g12_0, g34_1]
    refine hM _ _ ?_
    clear hM M
    exact pops_done (hJ60 _ (wk_same (wk_any (Wk.refl _ _))))
   simp only [List.drop_succ_cons, List.drop_zero, anyAt_cons, anyAt_nil]
   refine pops_mv (.inl rfl) rfl (by simp only [St.eval, upd_at, Nat.reduceEqDiff, if_true, if_false, g12_0] <;> rfl) ?_
   apply pops_or0 3 37 40 [38, 39] (by simp only [upd_at, Nat.reduceEqDiff, if_true, if_false, g12_0] <;> rfl)
   ·skip
    intro g37_1 J61 hJ61
    simp only [List.take_succ_cons, List.take_zero]
    simp only [anyAt_cons, anyAt_nil] at hJ61
    refine pops_mvg (.inl rfl) rfl rfl (by simp only [upd_at, Nat.reduceEqDiff, if_true, if_false, g12_0, g37_1]) (by simp only [St.eval, upd_at, Nat.reduceEqDiff, if_true, if_false, g12_0, g37_1] <;> rfl) ?_
    refine pops_do rfl rfl (by simp only [upd_at, Nat.reduceEqDiff, if_true, if_false, g12_0, g37_1]) fun M hM => ?_
    simp only [pop, St.eval, upd_at, Nat.reduceEqDiff, if_true, if_false, unK, g12_0, g37_1]
    refine hM _ _ ?_
    clear hM M
    refine pops_to rfl fun M hM => ?_
    simp only [pop, St.eval, constSlot, upd_at, Nat.reduceEqDiff, if_true, if_false, true_implies, false_implies, Bool.false_eq_true, reduceCtorEq, true_and, g12_0, g37_1]
    refine hM _ _ ?_
    clear hM M
    exact pops_done (hJ61 _ (wk_same (wk_any ((wk_any (Wk.refl _ _))))))
   ·skip
    intro g37_1 J61 hJ61
    simp only [List.take_succ_cons, List.take_zero]
    simp only [anyAt_cons, anyAt_nil] at hJ61
    refine pops_off (b := true) rfl rfl (by simp only [upd_at, Nat.reduceEqDiff, if_true, if_false, g12_0, g37_1]) (by decide) ?_
    refine pops_off (b := true) rfl rfl (by simp only [upd_at, Nat.reduceEqDiff, if_true, if_false, g12_0, g37_1]) (by decide) ?_
    refine pops_to rfl fun M hM => ?_
    simp only [pop, St.eval, constSlot, upd_at, Nat.reduceEqDiff, if_true, if_false, true_implies, false_implies, Bool.true_eq_false, reduceCtorEq, and_true, g12_0, g37_1]
    refine hM _ _ ?_
    clear hM M
    exact pops_done (hJ61 _ (wk_same (wk_any ((wk_any (Wk.refl _ _))))))
   simp only [List.drop_succ_cons, List.drop_zero, anyAt_cons, anyAt_nil]
   refine pops_mv (.inl rfl) rfl (by simp only [St.eval, upd_at, Nat.reduceEqDiff, if_true, if_false, g12_0] <;> rfl) ?_
   apply pops_or 4 41 45 [42, 43, 44] (by simp only [upd_at, Nat.reduceEqDiff, if_true, if_false, g12_0] <;> rfl)
   ·skip
    intro g41_1 J62 hJ62
    simp only [List.take_succ_cons, List.take_zero]
    simp only [anyAt_cons, anyAt_nil] at hJ62
    refine pops_do rfl rfl (by simp only [upd_at, Nat.reduceEqDiff, if_true, if_false, g12_0, g41_1]) fun M hM => ?_
    simp only [pop, St.eval, upd_at, Nat.reduceEqDiff, if_true, if_false, popFieldAddr, fieldOf, List.drop_succ_cons, List.drop_zero, List.getElem?_toArray, List.getElem?_cons_zero, List.getElem?_cons_succ, Tryd.underlying64, sz9, g12_0, g41_1]
    refine ⟨⟨_, rfl⟩, hM _ _ ?_⟩
    clear hM M
    refine pops_do rfl rfl (by simp only [upd_at, Nat.reduceEqDiff, if_true, if_false, g12_0, g41_1]) fun M hM => ?_
    simp only [pop, St.eval, upd_at, Nat.reduceEqDiff, if_true, if_false, popLoad, loadK, isAggD, Bool.false_eq_true, Tryd.underlying9, sz9, eq_self, g12_0, g41_1]
    refine hM _ _ ?_
    clear hM M
    refine pops_do rfl rfl (by simp only [upd_at, Nat.reduceEqDiff, if_true, if_false, g12_0, g41_1]) fun M hM => ?_
    simp only [pop, St.eval, constSlot, upd_at, Nat.reduceEqDiff, if_true, if_false, popCall, List.map_nil, svs, List.mapM_cons, List.mapM_nil, Option.bind_eq_bind, Option.bind_some, Option.pure_def, List.append_nil, g12_0, g41_1]
    refine PFun.use (hasByte_fun W0 g.text 0) fun h1 s1 => hM _ _ ?_
    replace s1 := Same.trans (Same.refl _) s1
    clear hM M
    refine pops_to rfl fun M hM => ?_
    simp only [pop, St.eval, constSlot, upd_at, Nat.reduceEqDiff, if_true, if_false, true_implies, false_implies, Bool.false_eq_true, reduceCtorEq, true_and, g12_0, g41_1]
    refine hM _ _ ?_
    clear hM M
    exact pops_done (hJ62 _ _ s1 (wk_same (wk_any ((wk_any ((wk_any (Wk.refl _ _))))))))
   ·skip
    intro g41_1 J62 hJ62
    simp only [List.take_succ_cons, List.take_zero]
    simp only [anyAt_cons, anyAt_nil] at hJ62
    refine pops_off (b := true) rfl rfl (by simp only [upd_at, Nat.reduceEqDiff, if_true, if_false, g12_0, g41_1]) (by decide) ?_
    refine pops_off (b := true) rfl rfl (by simp only [upd_at, Nat.reduceEqDiff, if_true, if_false, g12_0, g41_1]) (by decide) ?_
    refine pops_off (b := true) rfl rfl (by simp only [upd_at, Nat.reduceEqDiff, if_true, if_false, g12_0, g41_1]) (by decide) ?_
    refine pops_to rfl fun M hM => ?_
    simp only [pop, St.eval, constSlot, upd_at, Nat.reduceEqDiff, if_true, if_false, true_implies, false_implies, Bool.true_eq_false, reduceCtorEq, and_true, g12_0, g41_1]
    refine hM _ _ ?_
    clear hM M
    exact pops_done (hJ62 _ _ (Same.refl _) (wk_same (wk_any ((wk_any ((wk_any (Wk.refl _ _))))))))
   simp only [List.drop_succ_cons, List.drop_zero, anyAt_cons, anyAt_nil]
   intro hj62 sj62
   replace sj62 := Same.trans sq2 sj62
   refine pops_mv (.inr rfl) rfl (by simp only [St.eval, upd_at, Nat.reduceEqDiff, if_true, if_false, g12_0] <;> rfl) ?_
   refine pops_done (hR59 _ ?_)
   clear hR59 R59
   try simp only [blockK, thenK]
   try simp only [thenK, scopeK]
   refine hN54 _ ?_
   clear hN54 N54
   refine pwp_then fun N63 hN63 => ?_
   refine pwp_then fun N64 hN64 => ?_
   refine pwp_reg fun R65 hR65 => ?_
   refine pops_mv (.inl rfl) rfl (by simp only [St.eval, upd_at, Nat.reduceEqDiff, if_true, if_false, g12_0] <;> rfl) ?_
   refine pops_done (hR65 _ ?_)
   clear hR65 R65
   try simp only [thenK]
   refine hN64 _ ?_
   clear hN64 N64
   refine pwp_cond (by simp only [St.eval, upd_at, Nat.reduceEqDiff, if_true, if_false, g12_0] <;> rfl) (fun c68 => ?_) (fun c68 => ?_)
   ·skip
    have hb6 : formBad g = true := by rw [hfb]; first | (simp [*]; done) | (simp [*] at c68; done) | simpa [lenZ, lenZ0, *] using c68
    refine pwp_then fun N66 hN66 => ?_
    refine pwp_reg fun R67 hR67 => ?_
    refine pops_mv (.inr rfl) rfl (by simp only [St.eval, constSlot] <;> rfl) ?_
    refine pops_done (hR67 _ ?_)
    clear hR67 R67
    try simp only [thenK]
    refine hN66 _ ?_
    clear hN66 N66
    refine pwp_ret ?_
    simp only [thenK, bodyK]
    clear hN63 N63
    refine ⟨_, rfl, endFun sj62 ?_⟩
    try simp only [upd_at, Nat.reduceEqDiff, if_true, if_false, g12_0]
    all_goals
     first
       | (rw [hb6]; rfl)
       | (rw [show formBad g = true by rw [hfb]; simp_all]; rfl)
   ·skip
    have hb6 : formBad g = false := by rw [hfb]; first | (simp [*]; done) | (simp [*] at c68; done) | simpa [lenZ, lenZ0, *] using c68
    refine pwp_skip ?_
    try simp only [thenK]
    refine hN63 _ ?_
    clear hN63 N63
    refine pwp_then fun N68 hN68 => ?_
    refine pwp_reg fun R69 hR69 => ?_
    refine pops_mv (.inr rfl) rfl (by simp only [St.eval, constSlot] <;> rfl) ?_
    refine pops_done (hR69 _ ?_)
    clear hR69 R69
    try simp only [thenK]
    refine hN68 _ ?_
    clear hN68 N68
    refine pwp_ret ?_
    simp only [bodyK]
    refine ⟨_, rfl, endFun sj62 ?_⟩
    try simp only [upd_at, Nat.reduceEqDiff, if_true, if_false, g12_0]
    all_goals
     first
       | (rw [hb6]; rfl)
       | (rw [show formBad g = true by rw [hfb]; simp_all]; rfl)
  ·skip
   have hk1 : ¬ g.kind = 1 := by simpa using c31
   refine pwp_then fun N70 hN70 => ?_
   refine pwp_reg fun R71 hR71 => ?_
   refine pops_to rfl fun M hM => ?_
   simp only [pop, St.eval, constSlot, upd_at, Nat.reduceEqDiff, if_true, if_false, popBin, binK, intK, eq_self, true_and, g12_0]
   refine hM _ _ ?_
   clear hM M
   refine pops_mv (.inr rfl) rfl (by simp only [St.eval, upd_at, Nat.reduceEqDiff, if_true, if_false, g12_0] <;> rfl) ?_
   refine pops_done (hR71 _ ?_)
   clear hR71 R71
   try simp only [thenK]
   refine hN70 _ ?_
   clear hN70 N70
   refine pwp_cond (by simp only [St.eval, upd_at, Nat.reduceEqDiff, if_true, if_false, g12_0] <;> rfl) (fun c46 => ?_) (fun c46 => ?_)
   ·skip
    have hk : g.kind = 5 := by simpa using c46
    have hfb := formBad_5 hk
    refine pwp_reg fun R72 hR72 => ?_
    refine pops_mv (.inl rfl) rfl (by simp only [St.eval, upd_at, Nat.reduceEqDiff, if_true, if_false, g12_0] <;> rfl) ?_
    refine pops_mv (.inl rfl) rfl (by simp only [St.eval, upd_at, Nat.reduceEqDiff, if_true, if_false, g12_0] <;> rfl) ?_
    apply pops_or0 2 49 51 [50] (by simp only [upd_at, Nat.reduceEqDiff, if_true, if_false, g12_0] <;> rfl)
    ·skip
     intro g49_1 J73 hJ73
     simp only [List.take_succ_cons, List.take_zero]
     simp only [anyAt_cons, anyAt_nil] at hJ73
     refine pops_mvg (.inl rfl) rfl rfl (by simp only [upd_at, Nat.reduceEqDiff, if_true, if_false, g12_0, g49_1]) (by simp only [St.eval, upd_at, Nat.reduceEqDiff, if_true, if_false, g12_0, g49_1] <;> rfl) ?_
     refine pops_to rfl fun M hM => ?_
     simp only [pop, St.eval, constSlot, upd_at, Nat.reduceEqDiff, if_true, if_false, true_implies, false_implies, Bool.false_eq_true, reduceCtorEq, true_and, g12_0, g49_1]
     refine hM _ _ ?_
     clear hM M
     exact pops_done (hJ73 _ (wk_same (wk_any (Wk.refl _ _))))
    ·skip
     intro g49_1 J73 hJ73
     simp only [List.take_succ_cons, List.take_zero]
     simp only [anyAt_cons, anyAt_nil] at hJ73
     refine pops_off (b := true) rfl rfl (by simp only [upd_at, Nat.reduceEqDiff, if_true, if_false, g12_0, g49_1]) (by decide) ?_
     refine pops_to rfl fun M hM => ?_
     simp only [pop, St.eval, constSlot, upd_at, Nat.reduceEqDiff, if_true, if_false, true_implies, false_implies, Bool.true_eq_false, reduceCtorEq, and_true, g12_0, g49_1]
     refine hM _ _ ?_
     clear hM M
     exact pops_done (hJ73 _ (wk_same (wk_any (Wk.refl _ _))))
    simp only [List.drop_succ_cons, List.drop_zero, anyAt_cons, anyAt_nil]
    refine pops_mv (.inl rfl) rfl (by simp only [St.eval, upd_at, Nat.reduceEqDiff, if_true, if_false, g12_0] <;> rfl) ?_
    apply pops_or0 5 52 57 [53, 54, 55, 56] (by simp only [upd_at, Nat.reduceEqDiff, if_true, if_false, g12_0] <;> rfl)
    ·skip
     intro g52_1 J74 hJ74
     simp only [List.take_succ_cons, List.take_zero]
     simp only [anyAt_cons, anyAt_nil] at hJ74
     refine pops_do rfl rfl (by simp only [upd_at, Nat.reduceEqDiff, if_true, if_false, g12_0, g52_1]) fun M hM => ?_
     simp only [pop, St.eval, upd_at, Nat.reduceEqDiff, if_true, if_false, popFieldAddr, fieldOf, List.drop_succ_cons, List.drop_zero, List.getElem?_toArray, List.getElem?_cons_zero, List.getElem?_cons_succ, Tryd.underlying64, sz61, g12_0, g52_1]
     refine ⟨⟨_, rfl⟩, hM _ _ ?_⟩
     clear hM M
     refine pops_do rfl rfl (by simp only [upd_at, Nat.reduceEqDiff, if_true, if_false, g12_0, g52_1]) fun M hM => ?_
     simp only [pop, St.eval, upd_at, Nat.reduceEqDiff, if_true, if_false, popLoad, loadK, isAggD, Bool.false_eq_true, Tryd.underlying61, sz61, eq_self, g12_0, g52_1]
     refine hM _ _ ?_
     clear hM M
     refine pops_do rfl rfl (by simp only [upd_at, Nat.reduceEqDiff, if_true, if_false, g12_0, g52_1]) fun M hM => ?_
     simp only [pop, St.eval, upd_at, Nat.reduceEqDiff, if_true, if_false, popCall, List.map_cons, List.map_nil, popBuiltin, popLen, lenOfSlot, List.length_map, Tryd.underlying61, eq_self, g12_0, g52_1, List.length_map]
     refine hM _ _ ?_
     clear hM M
     refine pops_do rfl rfl (by simp only [upd_at, Nat.reduceEqDiff, if_true, if_false, g12_0, g52_1]) fun M hM => ?_
     simp only [pop, St.eval, constSlot, upd_at, Nat.reduceEqDiff, if_true, if_false, popBin, binK, intK, eq_self, true_and, g12_0, g52_1]
     refine hM _ _ ?_
     clear hM M
     refine pops_to rfl fun M hM => ?_
     simp only [pop, St.eval, constSlot, upd_at, Nat.reduceEqDiff, if_true, if_false, true_implies, false_implies, Bool.false_eq_true, reduceCtorEq, true_and, g12_0, g52_1]
     refine hM _ _ ?_
     clear hM M
     exact pops_done (hJ74 _ (wk_same (wk_any ((wk_any ((wk_any ((wk_any (Wk.refl _ _))))))))))
    ·skip
     intro g52_1 J74 hJ74
     simp only [List.take_succ_cons, List.take_zero]
     simp only [anyAt_cons, anyAt_nil] at hJ74
     refine pops_off (b := true) rfl rfl (by simp only [upd_at, Nat.reduceEqDiff, if_true, if_false, g12_0, g52_1]) (by decide) ?_
     refine pops_off (b := true) rfl rfl (by simp only [upd_at, Nat.reduceEqDiff, if_true, if_false, g12_0, g52_1]) (by decide) ?_
     refine pops_off (b := true) rfl rfl (by simp only [upd_at, Nat.reduceEqDiff, if_true, if_false, g12_0, g52_1]) (by decide) ?_
     refine pops_off (b := true) rfl rfl (by simp only [upd_at, Nat.reduceEqDiff, if_true, if_false, g12_0, g52_1]) (by decide) ?_
     refine pops_to rfl fun M hM => ?_
     simp only [pop, St.eval, constSlot, upd_at, Nat.reduceEqDiff, if_true, if_false, true_implies, false_implies, Bool.true_eq_false, reduceCtorEq, and_true, g12_0, g52_1]
     refine hM _ _ ?_
     clear hM M
     exact pops_done (hJ74 _ (wk_same (wk_any ((wk_any ((wk_any ((wk_any (Wk.refl _ _))))))))))
    simp only [List.drop_succ_cons, List.drop_zero, anyAt_cons, anyAt_nil]
    refine pops_mv (.inr rfl) rfl (by simp only [St.eval, upd_at, Nat.reduceEqDiff, if_true, if_false, g12_0] <;> rfl) ?_
    refine pops_done (hR72 _ ?_)
    clear hR72 R72
    try simp only [blockK, thenK]
    try simp only [thenK, scopeK]
    refine hN54 _ ?_
    clear hN54 N54
    refine pwp_then fun N75 hN75 => ?_
    refine pwp_then fun N76 hN76 => ?_
    refine pwp_reg fun R77 hR77 => ?_
    refine pops_mv (.inl rfl) rfl (by simp only [St.eval, upd_at, Nat.reduceEqDiff, if_true, if_false, g12_0] <;> rfl) ?_
    refine pops_done (hR77 _ ?_)
    clear hR77 R77
    try simp only [thenK]
    refine hN76 _ ?_
    clear hN76 N76
    refine pwp_cond (by simp only [St.eval, upd_at, Nat.reduceEqDiff, if_true, if_false, g12_0] <;> rfl) (fun c68 => ?_) (fun c68 => ?_)
    ·skip
     have hb6 : formBad g = true := by rw [hfb]; first | (simp [*]; done) | (simp [lenZ0, *] at c68; done) | simpa [lenZ, lenZ0, *] using c68
     refine pwp_then fun N78 hN78 => ?_
     refine pwp_reg fun R79 hR79 => ?_
     refine pops_mv (.inr rfl) rfl (by simp only [St.eval, constSlot] <;> rfl) ?_
     refine pops_done (hR79 _ ?_)
     clear hR79 R79
     try simp only [thenK]
     refine hN78 _ ?_
     clear hN78 N78
     refine pwp_ret ?_
     simp only [thenK, bodyK]
     clear hN75 N75
     refine ⟨_, rfl, endFun sq2 ?_⟩
     try simp only [upd_at, Nat.reduceEqDiff, if_true, if_false, g12_0]
     all_goals
      first
        | (rw [hb6]; rfl)
        | (rw [show formBad g = true by rw [hfb]; simp_all]; rfl)
    ·skip
     have hb6 : formBad g = false := by rw [hfb]; first | (simp [*]; done) | (simp [lenZ0, *] at c68; done) | simpa [lenZ, lenZ0, *] using c68
     refine pwp_skip ?_
     try simp only [thenK]
     refine hN75 _ ?_
     clear hN75 N75
     refine pwp_then fun N80 hN80 => ?_
     refine pwp_reg fun R81 hR81 => ?_
     refine pops_mv (.inr rfl) rfl (by simp only [St.eval, constSlot] <;> rfl) ?_
     refine pops_done (hR81 _ ?_)
     clear hR81 R81
     try simp only [thenK]
     refine hN80 _ ?_
     clear hN80 N80
     refine pwp_ret ?_
     simp only [bodyK]
     refine ⟨_, rfl, endFun sq2 ?_⟩
     try simp only [upd_at, Nat.reduceEqDiff, if_true, if_false, g12_0]
     all_goals
      first
        | (rw [hb6]; rfl)
        | (rw [show formBad g = true by rw [hfb]; simp_all]; rfl)
   ·skip
    have hk5 : ¬ g.kind = 5 := by simpa using c46
    refine pwp_then fun N82 hN82 => ?_
    refine pwp_reg fun R83 hR83 => ?_
    refine pops_to rfl fun M hM => ?_
    simp only [pop, St.eval, constSlot, upd_at, Nat.reduceEqDiff, if_true, if_false, popBin, binK, intK, eq_self, true_and, g12_0]
    refine hM _ _ ?_
    clear hM M
    refine pops_mv (.inr rfl) rfl (by simp only [St.eval, upd_at, Nat.reduceEqDiff, if_true, if_false, g12_0] <;> rfl) ?_
    refine pops_done (hR83 _ ?_)
    clear hR83 R83
    try simp only [thenK]
    refine hN82 _ ?_
    clear hN82 N82
    refine pwp_cond (by simp only [St.eval, upd_at, Nat.reduceEqDiff, if_true, if_false, g12_0] <;> rfl) (fun c58 => ?_) (fun c58 => ?_)
    ·skip
     have hk : g.kind = 6 := by simpa using c58
     have hfb := formBad_6 hk
     refine pwp_reg fun R84 hR84 => ?_
     refine pops_mv (.inl rfl) rfl (by simp only [St.eval, upd_at, Nat.reduceEqDiff, if_true, if_false, g12_0] <;> rfl) ?_
     refine pops_mv (.inl rfl) rfl (by simp only [St.eval, upd_at, Nat.reduceEqDiff, if_true, if_false, g12_0] <;> rfl) ?_
     apply pops_or0 2 61 63 [62] (by simp only [upd_at, Nat.reduceEqDiff, if_true, if_false, g12_0] <;> rfl)
     ·skip
      intro g61_1 J85 hJ85
      simp only [List.take_succ_cons, List.take_zero]
      simp only [anyAt_cons, anyAt_nil] at hJ85
      refine pops_mvg (.inl rfl) rfl rfl (by simp only [upd_at, Nat.reduceEqDiff, if_true, if_false, g12_0, g61_1]) (by simp only [St.eval, upd_at, Nat.reduceEqDiff, if_true, if_false, g12_0, g61_1] <;> rfl) ?_
      refine pops_to rfl fun M hM => ?_
      simp only [pop, St.eval, constSlot, upd_at, Nat.reduceEqDiff, if_true, if_false, true_implies, false_implies, Bool.false_eq_true, reduceCtorEq, true_and, g12_0, g61_1]
      refine hM _ _ ?_
      clear hM M
      exact pops_done (hJ85 _ (wk_same (wk_any (Wk.refl _ _))))
     ·skip
      intro g61_1 J85 hJ85
      simp only [List.take_succ_cons, List.take_zero]
      simp only [anyAt_cons, anyAt_nil] at hJ85
      refine pops_off (b := true) rfl rfl (by simp only [upd_at, Nat.reduceEqDiff, if_true, if_false, g12_0, g61_1]) (by decide) ?_
      refine pops_to rfl fun M hM => ?_
      simp only [pop, St.eval, constSlot, upd_at, Nat.reduceEqDiff, if_true, if_false, true_implies, false_implies, Bool.true_eq_false, reduceCtorEq, and_true, g12_0, g61_1]
      refine hM _ _ ?_
      clear hM M
      exact pops_done (hJ85 _ (wk_same (wk_any (Wk.refl _ _))))
     simp only [List.drop_succ_cons, List.drop_zero, anyAt_cons, anyAt_nil]
     refine pops_mv (.inl rfl) rfl (by simp only [St.eval, upd_at, Nat.reduceEqDiff, if_true, if_false, g12_0] <;> rfl) ?_
     apply pops_or0 3 64 67 [65, 66] (by simp only [upd_at, Nat.reduceEqDiff, if_true, if_false, g12_0] <;> rfl)
     ·skip
      intro g64_1 J86 hJ86
      simp only [List.take_succ_cons, List.take_zero]
      simp only [anyAt_cons, anyAt_nil] at hJ86
      refine pops_mvg (.inl rfl) rfl rfl (by simp only [upd_at, Nat.reduceEqDiff, if_true, if_false, g12_0, g64_1]) (by simp only [St.eval, upd_at, Nat.reduceEqDiff, if_true, if_false, g12_0, g64_1] <;> rfl) ?_
      refine pops_do rfl rfl (by simp only [upd_at, Nat.reduceEqDiff, if_true, if_false, g12_0, g64_1]) fun M hM => ?_
      simp only [pop, St.eval, upd_at, Nat.reduceEqDiff, if_true, if_false, unK, g12_0, g64_1]
      refine hM _ _ ?_
      clear hM M
      refine pops_to rfl fun M hM => ?_
      simp only [pop, St.eval, constSlot, upd_at, Nat.reduceEqDiff, if_true, if_false, true_implies, false_implies, Bool.false_eq_true, reduceCtorEq, true_and, g12_0, g64_1]
      refine hM _ _ ?_
      clear hM M
      exact pops_done (hJ86 _ (wk_same (wk_any ((wk_any (Wk.refl _ _))))))
     ·skip
      intro g64_1 J86 hJ86
      simp only [List.take_succ_cons, List.take_zero]
      simp only [anyAt_cons, anyAt_nil] at hJ86
      refine pops_off (b := true) rfl rfl (by simp only [upd_at, Nat.reduceEqDiff, if_true, if_false, g12_0, g64_1]) (by decide) ?_
      refine pops_off (b := true) rfl rfl (by simp only [upd_at, Nat.reduceEqDiff, if_true, if_false, g12_0, g64_1]) (by decide) ?_
      refine pops_to rfl fun M hM => ?_
      simp only [pop, St.eval, constSlot, upd_at, Nat.reduceEqDiff, if_true, if_false, true_implies, false_implies, Bool.true_eq_false, reduceCtorEq, and_true, g12_0, g64_1]
      refine hM _ _ ?_
      clear hM M
      exact pops_done (hJ86 _ (wk_same (wk_any ((wk_any (Wk.refl _ _))))))
     simp only [List.drop_succ_cons, List.drop_zero, anyAt_cons, anyAt_nil]
     refine pops_mv (.inr rfl) rfl (by simp only [St.eval, upd_at, Nat.reduceEqDiff, if_true, if_false, g12_0] <;> rfl) ?_
     refine pops_done (hR84 _ ?_)
     clear hR84 R84
     try simp only [blockK, thenK]
     try simp only [thenK, scopeK]
     refine hN54 _ ?_
     clear hN54 N54
     refine pwp_then fun N87 hN87 => ?_
     refine pwp_then fun N88 hN88 => ?_
     refine pwp_reg fun R89 hR89 => ?_
     refine pops_mv (.inl rfl) rfl (by simp only [St.eval, upd_at, Nat.reduceEqDiff, if_true, if_false, g12_0] <;> rfl) ?_
     refine pops_done (hR89 _ ?_)
     clear hR89 R89
     try simp only [thenK]
     refine hN88 _ ?_
     clear hN88 N88
     refine pwp_cond (by simp only [St.eval, upd_at, Nat.reduceEqDiff, if_true, if_false, g12_0] <;> rfl) (fun c68 => ?_) (fun c68 => ?_)
     ·skip
      have hb6 : formBad g = true := by rw [hfb]; first | (simp [*]; done) | (simp [*] at c68; done) | simpa [lenZ, lenZ0, *] using c68
      refine pwp_then fun N90 hN90 => ?_
      refine pwp_reg fun R91 hR91 => ?_
      refine pops_mv (.inr rfl) rfl (by simp only [St.eval, constSlot] <;> rfl) ?_
      refine pops_done (hR91 _ ?_)
      clear hR91 R91
      try simp only [thenK]
      refine hN90 _ ?_
      clear hN90 N90
      refine pwp_ret ?_
      simp only [thenK, bodyK]
      clear hN87 N87
      refine ⟨_, rfl, endFun sq2 ?_⟩
      try simp only [upd_at, Nat.reduceEqDiff, if_true, if_false, g12_0]
      all_goals
       first
         | (rw [hb6]; rfl)
         | (rw [show formBad g = true by rw [hfb]; simp_all]; rfl)
     ·skip
      have hb6 : formBad g = false := by rw [hfb]; first | (simp [*]; done) | (simp [*] at c68; done) | simpa [lenZ, lenZ0, *] using c68
      refine pwp_skip ?_
      try simp only [thenK]
      refine hN87 _ ?_
      clear hN87 N87
      refine pwp_then fun N92 hN92 => ?_
      refine pwp_reg fun R93 hR93 => ?_
      refine pops_mv (.inr rfl) rfl (by simp only [St.eval, constSlot] <;> rfl) ?_
      refine pops_done (hR93 _ ?_)
      clear hR93 R93
      try simp only [thenK]
      refine hN92 _ ?_
      clear hN92 N92
      refine pwp_ret ?_
      simp only [bodyK]
      refine ⟨_, rfl, endFun sq2 ?_⟩
      try simp only [upd_at, Nat.reduceEqDiff, if_true, if_false, g12_0]
      all_goals
       first
         | (rw [hb6]; rfl)
         | (rw [show formBad g = true by rw [hfb]; simp_all]; rfl)
    ·skip
     have hk6 : ¬ g.kind = 6 := by simpa using c58
     have hfb := formBad_0 hk1 hk5 hk6
     refine pwp_reg fun R94 hR94 => ?_
     refine pops_mv (.inl rfl) rfl (by simp only [St.eval, upd_at, Nat.reduceEqDiff, if_true, if_false, g12_0] <;> rfl) ?_
     refine pops_mv (.inl rfl) rfl (by simp only [St.eval, upd_at, Nat.reduceEqDiff, if_true, if_false, g12_0] <;> rfl) ?_
     apply pops_or0 2 25 27 [26] (by simp only [upd_at, Nat.reduceEqDiff, if_true, if_false, g12_0] <;> rfl)
     ·skip
      intro g25_1 J95 hJ95
      simp only [List.take_succ_cons, List.take_zero]
      simp only [anyAt_cons, anyAt_nil] at hJ95
      refine pops_mvg (.inl rfl) rfl rfl (by simp only [upd_at, Nat.reduceEqDiff, if_true, if_false, g12_0, g25_1]) (by simp only [St.eval, upd_at, Nat.reduceEqDiff, if_true, if_false, g12_0, g25_1] <;> rfl) ?_
      refine pops_to rfl fun M hM => ?_
      simp only [pop, St.eval, constSlot, upd_at, Nat.reduceEqDiff, if_true, if_false, true_implies, false_implies, Bool.false_eq_true, reduceCtorEq, true_and, g12_0, g25_1]
      refine hM _ _ ?_
      clear hM M
      exact pops_done (hJ95 _ (wk_same (wk_any (Wk.refl _ _))))
     ·skip
      intro g25_1 J95 hJ95
      simp only [List.take_succ_cons, List.take_zero]
      simp only [anyAt_cons, anyAt_nil] at hJ95
      refine pops_off (b := true) rfl rfl (by simp only [upd_at, Nat.reduceEqDiff, if_true, if_false, g12_0, g25_1]) (by decide) ?_
      refine pops_to rfl fun M hM => ?_
      simp only [pop, St.eval, constSlot, upd_at, Nat.reduceEqDiff, if_true, if_false, true_implies, false_implies, Bool.true_eq_false, reduceCtorEq, and_true, g12_0, g25_1]
      refine hM _ _ ?_
      clear hM M
      exact pops_done (hJ95 _ (wk_same (wk_any (Wk.refl _ _))))
     simp only [List.drop_succ_cons, List.drop_zero, anyAt_cons, anyAt_nil]
     refine pops_mv (.inl rfl) rfl (by simp only [St.eval, upd_at, Nat.reduceEqDiff, if_true, if_false, g12_0] <;> rfl) ?_
     apply pops_or0 2 28 30 [29] (by simp only [upd_at, Nat.reduceEqDiff, if_true, if_false, g12_0] <;> rfl)
     ·skip
      intro g28_1 J96 hJ96
      simp only [List.take_succ_cons, List.take_zero]
      simp only [anyAt_cons, anyAt_nil] at hJ96
      refine pops_mvg (.inl rfl) rfl rfl (by simp only [upd_at, Nat.reduceEqDiff, if_true, if_false, g12_0, g28_1]) (by simp only [St.eval, upd_at, Nat.reduceEqDiff, if_true, if_false, g12_0, g28_1] <;> rfl) ?_
      refine pops_to rfl fun M hM => ?_
      simp only [pop, St.eval, constSlot, upd_at, Nat.reduceEqDiff, if_true, if_false, true_implies, false_implies, Bool.false_eq_true, reduceCtorEq, true_and, g12_0, g28_1]
      refine hM _ _ ?_
      clear hM M
      exact pops_done (hJ96 _ (wk_same (wk_any (Wk.refl _ _))))
     ·skip
      intro g28_1 J96 hJ96
      simp only [List.take_succ_cons, List.take_zero]
      simp only [anyAt_cons, anyAt_nil] at hJ96
      refine pops_off (b := true) rfl rfl (by simp only [upd_at, Nat.reduceEqDiff, if_true, if_false, g12_0, g28_1]) (by decide) ?_
      refine pops_to rfl fun M hM => ?_
      simp only [pop, St.eval, constSlot, upd_at, Nat.reduceEqDiff, if_true, if_false, true_implies, false_implies, Bool.true_eq_false, reduceCtorEq, and_true, g12_0, g28_1]
      refine hM _ _ ?_
      clear hM M
      exact pops_done (hJ96 _ (wk_same (wk_any (Wk.refl _ _))))
     simp only [List.drop_succ_cons, List.drop_zero, anyAt_cons, anyAt_nil]
     refine pops_mv (.inr rfl) rfl (by simp only [St.eval, upd_at, Nat.reduceEqDiff, if_true, if_false, g12_0] <;> rfl) ?_
     refine pops_done (hR94 _ ?_)
     clear hR94 R94
     try simp only [blockK, thenK]
     try simp only [thenK, scopeK]
     refine hN54 _ ?_
     clear hN54 N54
     refine pwp_then fun N97 hN97 => ?_
     refine pwp_then fun N98 hN98 => ?_
     refine pwp_reg fun R99 hR99 => ?_
     refine pops_mv (.inl rfl) rfl (by simp only [St.eval, upd_at, Nat.reduceEqDiff, if_true, if_false, g12_0] <;> rfl) ?_
     refine pops_done (hR99 _ ?_)
     clear hR99 R99
     try simp only [thenK]
     refine hN98 _ ?_
     clear hN98 N98
     refine pwp_cond (by simp only [St.eval, upd_at, Nat.reduceEqDiff, if_true, if_false, g12_0] <;> rfl) (fun c68 => ?_) (fun c68 => ?_)
     ·skip
      have hb6 : formBad g = true := by rw [hfb]; first | (simp [*]; done) | (simp [*] at c68; done) | simpa [lenZ, lenZ0, *] using c68
      refine pwp_then fun N100 hN100 => ?_
      refine pwp_reg fun R101 hR101 => ?_
      refine pops_mv (.inr rfl) rfl (by simp only [St.eval, constSlot] <;> rfl) ?_
      refine pops_done (hR101 _ ?_)
      clear hR101 R101
      try simp only [thenK]
      refine hN100 _ ?_
      clear hN100 N100
      refine pwp_ret ?_
      simp only [thenK, bodyK]
      clear hN97 N97
      refine ⟨_, rfl, endFun sq2 ?_⟩
      try simp only [upd_at, Nat.reduceEqDiff, if_true, if_false, g12_0]
      all_goals
       first
         | (rw [hb6]; rfl)
         | (rw [show formBad g = true by rw [hfb]; simp_all]; rfl)
     ·skip
      have hb6 : formBad g = false := by rw [hfb]; first | (simp [*]; done) | (simp [*] at c68; done) | simpa [lenZ, lenZ0, *] using c68
      refine pwp_skip ?_
      try simp only [thenK]
      refine hN97 _ ?_
      clear hN97 N97
      refine pwp_then fun N102 hN102 => ?_
      refine pwp_reg fun R103 hR103 => ?_
      refine pops_mv (.inr rfl) rfl (by simp only [St.eval, constSlot] <;> rfl) ?_
      refine pops_done (hR103 _ ?_)
      clear hR103 R103
      try simp only [thenK]
      refine hN102 _ ?_
      clear hN102 N102
      refine pwp_ret ?_
      simp only [bodyK]
      refine ⟨_, rfl, endFun sq2 ?_⟩
      try simp only [upd_at, Nat.reduceEqDiff, if_true, if_false, g12_0]
      all_goals
       first
         | (rw [hb6]; rfl)
         | (rw [show formBad g = true by rw [hfb]; simp_all]; rfl)
end Go.Pw
