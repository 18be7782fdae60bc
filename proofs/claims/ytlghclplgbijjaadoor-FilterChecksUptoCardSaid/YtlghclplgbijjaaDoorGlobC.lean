/- Own work: part of the proof of the row YtlghclplgbijjaaDoorRowFilterChecksUpto; no condition of its own. -/
import Derived.Test.YtlghclplgbijjaaDoorGlobB
import Derived.Test.YtlghclplgbijjaaDoorGFacts
namespace Go.Pw
open Go Go.RowKit Go.Proofs
set_option maxRecDepth 100000
set_option linter.unusedSimpArgs false
set_option linter.unusedVariables false
abbrev dG : GPart := .mk 0 [] false [] []
def prevR (r : List (Int × Int)) : Nat → Option Int
  | 0 => none
  | i + 1 => (r[i]?).map (·.2)
theorem rng_step {r : List (Int × Int)} {i : Nat} {x : Int × Int} (hx : r[i]? = some x) : rngE (prevR r i) (r.drop i) = if rngBad x then 7 else if (decide (0 < i) && decide (x.1 ≤ (r.getD (i - 1) (0, 0)).2 + 1)) then 10 else rngE (prevR r (i + 1)) (r.drop (i + 1)) := by
  have hl := (List.getElem?_eq_some_iff.1 hx).1
  have hd : r.drop i = x :: r.drop (i + 1) := by rw [List.drop_eq_getElem_cons hl, (List.getElem?_eq_some_iff.1 hx).2]
  rw [hd]
  simp only [rngE]
  have hp : prevR r (i + 1) = some x.2 := by simp [prevR, hx]
  rw [hp]
  cases i with
  | zero => simp [prevR]
  | succ k =>
    have hk : r[k]? = some r[k] := List.getElem?_eq_getElem (by omega)
    simp only [prevR, hk, Option.map_some]
    rw [show k + 1 - 1 = k from rfl, List.getD_eq_getElem?_getD, hk]
    simp
theorem rng_at {r : List (Int × Int)} {i : Nat} {x : Int × Int} (hx : r[i]? = some x) : (rngPV r)[i]? = some [pint x.1, pint x.2] := by rw [List.getElem?_map, hx]; rfl
theorem rng_prev {r : List (Int × Int)} {i : Nat} (hi : i < r.length) (h0 : 0 < i) : (rngPV r)[i - 1]? = some [pint (r.getD (i - 1) (0, 0)).1, pint (r.getD (i - 1) (0, 0)).2] := by
  have hk : r[i - 1]? = some r[i - 1] := List.getElem?_eq_getElem (by omega)
  rw [rng_at hk, List.getD_eq_getElem?_getD, hk]; rfl
theorem getD_mem {α : Type} {r : List α} {i : Nat} (d : α) (hi : i < r.length) (h0 : 0 < i) : r.getD (i - 1) d ∈ r.take i := by
  have hk : r[i - 1]? = some r[i - 1] := List.getElem?_eq_getElem (by omega)
  rw [List.getD_eq_getElem?_getD, hk]
  refine List.mem_of_getElem? (i := i - 1) ?_
  rw [List.getElem?_take, if_pos (by omega), hk]; rfl
theorem take_nextG {α : Type} {Q : α → Prop} {l : List α} {i : Nat} {x : α} (h1 : ∀ y ∈ l.take i, Q y) (hx : l[i]? = some x) (hq : Q x) : ∀ y ∈ l.take (i + 1), Q y := by
  rw [List.take_add_one, hx]
  simp only [Option.toList_some, List.mem_append, List.mem_singleton]
  rintro y (hy | rfl)
  · exact h1 y hy
  · exact hq
def textAt (l : List GPart) (i : Int) : Bool := (decide (i ≥ 0) && decide (i < (l.length : Nat))) && ((l.getD i.toNat dG).kind == 1)
theorem encL_getD {l : List GPart} {i : Int} (h0 : 0 ≤ i) (h1 : i < (l.length : Nat)) : (encL l)[i.toNat]? = some (encG (l.getD i.toNat dG)) := by
  have hk : l[i.toNat]? = some l[i.toNat] := List.getElem?_eq_getElem (by omega)
  rw [encL_at hk, List.getD_eq_getElem?_getD, hk]; rfl
theorem textAt_nat {l : List GPart} {i : Nat} {g : GPart} (h : l[i]? = some g) : textAt l (i : Int) = decide (g.kind = 1) := by
  have hl := (List.getElem?_eq_some_iff.1 h).1
  unfold textAt
  rw [decide_eq_true (by omega), decide_eq_true (by omega), Int.toNat_natCast, List.getD_eq_getElem?_getD, h]
  rfl
theorem textAt_out {l : List GPart} {i : Nat} (h : l.length ≤ i) : textAt l (i : Int) = false := by
  unfold textAt
  rw [decide_eq_false (p := (i : Int) < (l.length : Nat)) (by omega), Bool.and_false, Bool.false_and]
theorem textAt_neg {l : List GPart} {i : Int} (h : i < 0) : textAt l i = false := by
  unfold textAt
  rw [decide_eq_false (p := i ≥ 0) (by omega), Bool.false_and, Bool.false_and]
theorem drop_at {α : Type} {l : List α} {i : Nat} {g : α} (h : l[i]? = some g) : l.drop i = g :: l.drop (i + 1) := by
  have hl := (List.getElem?_eq_some_iff.1 h).1
  rw [List.drop_eq_getElem_cons hl, (List.getElem?_eq_some_iff.1 h).2]
theorem chkG_eq (g : GPart) : chkG g = if rngE none g.ranges ≠ 0 then rngE none g.ranges else chkW g.ways := by cases g; rw [chkG]; rfl
theorem chk_step {l : List GPart} {i : Nat} {g : GPart} (h : l[i]? = some g) : chkL (textAt l ((i : Int) - 1)) (l.drop i) = if g.kind < 1 ∨ 6 < g.kind then 5 else if formBad g then 6 else if g.kind = 1 ∧ textAt l ((i : Int) - 1) = true then 6 else if chkG g ≠ 0 then chkG g else chkL (textAt l (((i + 1 : Nat) : Int) - 1)) (l.drop (i + 1)) := by
  rw [drop_at h, chkL, show ((i + 1 : Nat) : Int) - 1 = (i : Int) by omega, textAt_nat h]
theorem text_plain {g : GPart} (h1 : g.kind = 1) (hf : formBad g = false) : chkG g = 0 := by
  have e1 : g.ranges = [] := by
    cases hr : g.ranges with
    | nil => rfl
    | cons a b => simp [formBad, h1, hr] at hf
  have e2 : g.ways = [] := by
    cases hr : g.ways with
    | nil => rfl
    | cons a b => simp [formBad, h1, hr] at hf
  rw [chkG_eq, e1, e2, rngE, chkW]; rfl
theorem chk_next {l : List GPart} {i : Nat} {g : GPart} (h : l[i]? = some g) (h1 : g.kind = 1) (hf : formBad g = false) (hp : textAt l ((i : Int) - 1) = false) (hn : textAt l ((i + 1 : Nat) : Int) = true) : chkL (textAt l ((i : Int) - 1)) (l.drop i) = 6 := by
  rw [chk_step h, if_neg (by omega), if_neg (by rw [hf]; decide), if_neg (by rw [hp]; simp), if_neg (by rw [text_plain h1 hf]; decide)]
  have hl : i + 1 < l.length := by
    rcases Nat.lt_or_ge (i + 1) l.length with h2 | h2
    · exact h2
    · rw [textAt_out h2] at hn; cases hn
  have h2 : l[i + 1]? = some l[i + 1] := List.getElem?_eq_getElem hl
  rw [textAt_nat h2] at hn
  have hk := of_decide_eq_true hn
  rw [chk_step h2, if_neg (by omega)]
  split
  · rfl
  · rw [if_pos ⟨hk, by rw [show ((i + 1 : Nat) : Int) - 1 = (i : Int) by omega, textAt_nat h]; exact decide_eq_true h1⟩]
theorem chkW_step {w : List (List GPart)} {j : Nat} {v : List GPart} (h : w[j]? = some v) : chkW (w.drop j) = if chkL false v ≠ 0 then chkL false v else chkW (w.drop (j + 1)) := by rw [drop_at h, chkW]
def starAt (l : List GPart) (i : Nat) : Bool := decide (0 < i) && starB (l.getD (i - 1) dG)
theorem starAt_succ {l : List GPart} {i : Nat} {g : GPart} (h : l[i]? = some g) : starAt l (i + 1) = starB g := by
  unfold starAt
  rw [show i + 1 - 1 = i from rfl, List.getD_eq_getElem?_getD, h]
  simp
theorem stG_eq (g : GPart) : stG g = stW g.ways := by cases g; rw [stG]; rfl
theorem st_step {l : List GPart} {i : Nat} {g : GPart} (h : l[i]? = some g) : stL (starAt l i) (l.drop i) = ((starAt l i && starB g) || stW g.ways || stL (starAt l (i + 1)) (l.drop (i + 1))) := by rw [drop_at h, stL, stG_eq, starAt_succ h]
theorem stW_step {w : List (List GPart)} {j : Nat} {v : List GPart} (h : w[j]? = some v) : stW (w.drop j) = (stL false v || stW (w.drop (j + 1))) := by rw [drop_at h, stW]
theorem encL_prev {l : List GPart} {i : Nat} (hi : i < l.length) (h0 : 0 < i) : (encL l)[i - 1]? = some (encG (l.getD (i - 1) dG)) := by
  have hk : l[i - 1]? = some l[i - 1] := List.getElem?_eq_getElem (by omega)
  rw [encL_at hk, List.getD_eq_getElem?_getD, hk]; rfl
theorem wrap1 {i : Nat} (h : i ≤ 1048576) : IntKind.i64.wrap ((i : Int) + 1) = ((i + 1 : Nat) : Int) := by rw [wrap_i64 (by omega) (by omega)]; omega
theorem wrapm {i : Nat} (h : i ≤ 1048576) : IntKind.i64.wrap ((i : Int) - 1) = (i : Int) - 1 := wrap_i64 (by omega) (by omega)
theorem wrapp {i : Nat} (h : i ≤ 1048576) (h0 : 0 < i) : IntKind.i64.wrap ((i : Int) - 1) = ((i - 1 : Nat) : Int) := by rw [wrap_i64 (by omega) (by omega)]; omega
theorem nm68 : (Tryd.f68.name == "runtime.NumGoroutine") = false := by kernel_rfl
set_option maxHeartbeats 2000000 in
theorem rangesForm_fun (W0 : World) (r : List (Int × Int)) (hn : r.length ≤ 1048576) :
  PFun Tryd.prog W0 68 [.one (.ro false 2 (rngPV r))] (.sv (.one (pint (rngE none r)))) := by
 intro h
 refine pcalls1 (n := 59) Tryd.func68 rfl nm68 rfl fun hb => ?_
 refine pwp_then fun N1 hN1 => ?_
 refine pwp_reg fun R2 hR2 => ?_
 refine pops_mv (.inr rfl) rfl (by simp only [St.eval, constSlot] <;> rfl) ?_
 refine pops_done (hR2 _ ?_)
 clear hR2 R2
 try simp only [thenK]
 refine hN1 _ ?_
 clear hN1 N1
 refine pwp_then fun N3 hN3 => ?_
 refine pwp_then fun N4 hN4 => ?_
 refine pwp_reg fun R5 hR5 => ?_
 refine pops_mv (.inl rfl) rfl (by simp only [St.eval, upd_at, Nat.reduceEqDiff, if_true, if_false] <;> rfl) ?_
 refine pops_to rfl fun M hM => ?_
 simp only [pop, St.eval, upd_at, Nat.reduceEqDiff, if_true, if_false, popCall, List.map_cons, List.map_nil, popBuiltin, popLen, lenOfSlot, List.length_map, Tryd.underlying61, eq_self, List.length_map]
 refine hM _ _ ?_
 clear hM M
 refine pops_mv (.inl rfl) rfl (by simp only [St.eval, constSlot] <;> rfl) ?_
 refine pops_done (hR5 _ ?_)
 clear hR5 R5
 try simp only [thenK]
 refine hN4 _ ?_
 clear hN4 N4
 refine pwp_block ?_
 refine pwp_loop (fun k σ => ∃ (i : Nat), (k = r.length - i) ∧ (i ≤ r.length) ∧ (rngE (prevR r i) (r.drop i) = rngE none r) ∧ (∀ y ∈ r.take i, rngBad y = false) ∧ (Same h σ.hp) ∧ (σ.env 0 = .sv (.one (.ro false 2 (rngPV r)))) ∧ (σ.env 7 = .sv (.one (.ro false 2 (rngPV r)))) ∧ (σ.env 8 = .sv (.one (pint (r.length : Nat)))) ∧ (σ.env 9 = .sv (.one (pint (i : Nat))))) _ ⟨_, .refl _ _, 0, rfl, ?_⟩ ?_
 · exact ⟨Nat.zero_le _, rfl, by simp, (Same.refl _), by simp only [upd_at, Nat.reduceEqDiff, if_true, if_false], by simp only [upd_at, Nat.reduceEqDiff, if_true, if_false], by first | rfl | (simp only [upd_at, Nat.reduceEqDiff, if_true, if_false]; rfl), by first | rfl | (simp only [upd_at, Nat.reduceEqDiff, if_true, if_false]; rfl)⟩
 ·rintro k ⟨e, hp0⟩ ⟨i, hk0, hx0_0, hx0_1, hx0_2, sl0, e0_0, e0_7, e0_8, e0_9⟩
  simp only at sl0 e0_0 e0_7 e0_8 e0_9
  refine pwp_then fun N6 hN6 => ?_
  refine pwp_reg fun R7 hR7 => ?_
  refine pops_to rfl fun M hM => ?_
  simp only [pop, St.eval, popBin, binK, intK, eq_self, true_and, e0_8, e0_9]
  refine hM _ _ ?_
  clear hM M
  refine pops_done (hR7 _ ?_)
  clear hR7 R7
  try simp only [thenK]
  refine hN6 _ ?_
  clear hN6 N6
  refine pwp_then fun N8 hN8 => ?_
  refine pwp_cond (by simp only [St.eval, upd_at, if_true] <;> rfl) (fun c10 => ?_) (fun c10 => ?_)
  ·skip
   have hi : i < r.length := by have := of_decide_eq_true c10; omega
   obtain ⟨x, hx⟩ : ∃ x, r[i]? = some x := ⟨_, List.getElem?_eq_getElem hi⟩
   have hget := rng_at hx
   have hst := rng_step hx
   rw [hx0_1] at hst
   refine pwp_skip ?_
   try simp only [thenK]
   refine hN8 _ ?_
   clear hN8 N8
   refine pwp_then fun N9 hN9 => ?_
   refine pwp_block ?_
   refine pwp_then fun N10 hN10 => ?_
   refine pwp_reg fun R11 hR11 => ?_
   refine pops_mv (.inl rfl) rfl (by simp only [St.eval, upd_at, Nat.reduceEqDiff, if_false, e0_9] <;> rfl) ?_
   refine pops_to rfl fun M hM => ?_
   simp only [pop, St.eval, upd_at, Nat.reduceEqDiff, if_false, popIndexAddr, Tryd.underlying61, sz67, eq_self, true_and, e0_7, e0_9, hget, Int.toNat_natCast]
   refine ⟨Int.natCast_nonneg _, hM _ _ ?_⟩
   clear hM M
   refine pops_to rfl fun M hM => ?_
   simp only [pop, St.eval, upd_at, Nat.reduceEqDiff, if_true, if_false, List.length_cons, List.length_nil, Nat.zero_add, Nat.reduceAdd, Nat.reduceLeDiff, List.take_succ_cons, List.take_nil, popLoad, loadK, isAggD, Tryd.underlying67, sz67, eq_self, true_and]
   refine hM _ _ ?_
   clear hM M
   refine pops_valloc rfl ze67 (zs := [PV.val (.int .i64 0), PV.val (.int .i64 0)]) (by kernel_rfl) (by exact Nat.succ_pos _) (fun id12 hid12 => ?_)
   refine pops_mv (.inr rfl) rfl (by simp only [St.eval, upd_at, Nat.reduceEqDiff, if_true, if_false] <;> rfl) ?_
   refine pops_vstore (zs := [PV.val (.int .i64 0), PV.val (.int .i64 0)]) (hpOk.same hb sl0) hid12 (by simp only [upd_at, Nat.reduceEqDiff, if_true, if_false]) (by simp only [St.eval, slotCells, upd_at, Nat.reduceEqDiff, if_true, if_false] <;> rfl) (by rfl) (by rw [sz67]; rfl) (fun hv13 sv13 => ?_)
   replace sv13 := Same.trans sl0 sv13
   refine pops_done (hR11 _ ?_)
   clear hR11 R11
   try simp only [thenK]
   refine hN10 _ ?_
   clear hN10 N10
   refine pwp_then fun N14 hN14 => ?_
   refine pwp_dreg 6 mixed (by decide +kernel) fun R15 hR15 => ?_
   simp only [List.take_succ_cons, List.take_zero, List.drop_succ_cons, List.drop_zero]
   apply lex_to
   · rfl
   ·intro h' s' M hM
    simp only [pop, St.eval, constSlot, upd_at, Nat.reduceEqDiff, if_true, if_false, popIndexAddr, Tryd.underlying67, sz3, eq_self]
    refine ⟨by decide, by decide, ?_⟩
    exact hM _ (.refl _)
   apply lex_to
   · rfl
   ·intro h' s' M hM
    simp only [pop, St.eval, upd_at, Nat.reduceEqDiff, if_true, if_false, popLoad, loadK, isAggD, Bool.false_eq_true, Tryd.underlying3, sz3, eq_self]
    exact hM _ (.refl _)
   apply lex_to
   · rfl
   ·intro h' s' M hM
    simp only [pop, St.eval, constSlot, upd_at, Nat.reduceEqDiff, if_true, if_false, popIndexAddr, Tryd.underlying67, sz3, eq_self]
    refine ⟨by decide, by decide, ?_⟩
    exact hM _ (.refl _)
   apply lex_to
   · rfl
   ·intro h' s' M hM
    simp only [pop, St.eval, upd_at, Nat.reduceEqDiff, if_true, if_false, popLoad, loadK, isAggD, Bool.false_eq_true, Tryd.underlying3, sz3, eq_self]
    exact hM _ (.refl _)
   apply lex_to
   · rfl
   ·intro h' s' M hM
    simp only [pop, St.eval, upd_at, Nat.reduceEqDiff, if_true, if_false, eq_self]
    exact hM _ (.refl _)
   apply lex_to
   · rfl
   ·intro h' s' M hM
    simp only [pop, St.eval, upd_at, Nat.reduceEqDiff, if_true, if_false, eq_self]
    exact hM _ (.refl _)
   refine lex_done fun hq sq => ?_
   replace sq := Same.trans sv13 sq
   refine pops_done (hR15 _ ?_)
   clear hR15 R15
   try simp only [thenK]
   refine hN14 _ ?_
   clear hN14 N14
   refine pwp_then fun N16 hN16 => ?_
   refine pwp_then fun N17 hN17 => ?_
   refine pwp_reg fun R18 hR18 => ?_
   refine pops_mv (.inl rfl) rfl (by simp only [St.eval, upd_at, Nat.reduceEqDiff, if_true, if_false] <;> rfl) ?_
   refine pops_to rfl fun M hM => ?_
   simp only [pop, St.eval, constSlot, upd_at, Nat.reduceEqDiff, if_true, if_false, popBin, binK, intK, eq_self, true_and]
   refine hM _ _ ?_
   clear hM M
   refine pops_mv (.inl rfl) rfl (by simp only [St.eval, upd_at, Nat.reduceEqDiff, if_true, if_false] <;> rfl) ?_
   apply pops_or0 3 20 23 [21, 22] (by simp only [upd_at, Nat.reduceEqDiff, if_true, if_false] <;> rfl)
   ·skip
    intro g20_0 J19 hJ19
    simp only [List.take_succ_cons, List.take_zero]
    simp only [anyAt_cons, anyAt_nil] at hJ19
    refine pops_mvg (.inl rfl) rfl rfl (by simp only [upd_at, Nat.reduceEqDiff, if_true, if_false, g20_0]) (by simp only [St.eval, upd_at, Nat.reduceEqDiff, if_true, if_false, g20_0] <;> rfl) ?_
    refine pops_do rfl rfl (by simp only [upd_at, Nat.reduceEqDiff, if_true, if_false, g20_0]) fun M hM => ?_
    simp only [pop, St.eval, constSlot, upd_at, Nat.reduceEqDiff, if_true, if_false, popBin, binK, intK, eq_self, true_and, g20_0]
    refine hM _ _ ?_
    clear hM M
    refine pops_to rfl fun M hM => ?_
    simp only [pop, St.eval, constSlot, upd_at, Nat.reduceEqDiff, if_true, if_false, true_implies, false_implies, Bool.false_eq_true, true_and, g20_0]
    refine hM _ _ ?_
    clear hM M
    exact pops_done (hJ19 _ (wk_same (wk_any ((wk_any (Wk.refl _ _))))))
   ·skip
    intro g20_0 J19 hJ19
    simp only [List.take_succ_cons, List.take_zero]
    simp only [anyAt_cons, anyAt_nil] at hJ19
    refine pops_off (b := true) rfl rfl (by simp only [upd_at, Nat.reduceEqDiff, if_true, if_false, g20_0]) (by decide) ?_
    refine pops_off (b := true) rfl rfl (by simp only [upd_at, Nat.reduceEqDiff, if_true, if_false, g20_0]) (by decide) ?_
    refine pops_to rfl fun M hM => ?_
    simp only [pop, St.eval, constSlot, upd_at, Nat.reduceEqDiff, if_true, if_false, true_implies, false_implies, Bool.true_eq_false, and_true, g20_0]
    refine hM _ _ ?_
    clear hM M
    exact pops_done (hJ19 _ (wk_same (wk_any ((wk_any (Wk.refl _ _))))))
   simp only [List.drop_succ_cons, List.drop_zero, anyAt_cons, anyAt_nil]
   refine pops_mv (.inl rfl) rfl (by simp only [St.eval, upd_at, Nat.reduceEqDiff, if_true, if_false] <;> rfl) ?_
   apply pops_or0 3 24 27 [25, 26] (by simp only [upd_at, Nat.reduceEqDiff, if_true, if_false] <;> rfl)
   ·skip
    intro g24_0 J20 hJ20
    simp only [List.take_succ_cons, List.take_zero]
    simp only [anyAt_cons, anyAt_nil] at hJ20
    refine pops_mvg (.inl rfl) rfl rfl (by simp only [upd_at, Nat.reduceEqDiff, if_true, if_false, g24_0]) (by simp only [St.eval, upd_at, Nat.reduceEqDiff, if_true, if_false, g24_0] <;> rfl) ?_
    refine pops_do rfl rfl (by simp only [upd_at, Nat.reduceEqDiff, if_true, if_false, g24_0]) fun M hM => ?_
    simp only [pop, St.eval, constSlot, upd_at, Nat.reduceEqDiff, if_true, if_false, popBin, binK, intK, eq_self, true_and, g24_0]
    refine hM _ _ ?_
    clear hM M
    refine pops_to rfl fun M hM => ?_
    simp only [pop, St.eval, constSlot, upd_at, Nat.reduceEqDiff, if_true, if_false, true_implies, false_implies, Bool.false_eq_true, true_and, g24_0]
    refine hM _ _ ?_
    clear hM M
    exact pops_done (hJ20 _ (wk_same (wk_any ((wk_any (Wk.refl _ _))))))
   ·skip
    intro g24_0 J20 hJ20
    simp only [List.take_succ_cons, List.take_zero]
    simp only [anyAt_cons, anyAt_nil] at hJ20
    refine pops_off (b := true) rfl rfl (by simp only [upd_at, Nat.reduceEqDiff, if_true, if_false, g24_0]) (by decide) ?_
    refine pops_off (b := true) rfl rfl (by simp only [upd_at, Nat.reduceEqDiff, if_true, if_false, g24_0]) (by decide) ?_
    refine pops_to rfl fun M hM => ?_
    simp only [pop, St.eval, constSlot, upd_at, Nat.reduceEqDiff, if_true, if_false, true_implies, false_implies, Bool.true_eq_false, and_true, g24_0]
    refine hM _ _ ?_
    clear hM M
    exact pops_done (hJ20 _ (wk_same (wk_any ((wk_any (Wk.refl _ _))))))
   simp only [List.drop_succ_cons, List.drop_zero, anyAt_cons, anyAt_nil]
   refine pops_mv (.inl rfl) rfl (by simp only [St.eval, upd_at, Nat.reduceEqDiff, if_true, if_false] <;> rfl) ?_
   apply pops_or0 3 28 31 [29, 30] (by simp only [upd_at, Nat.reduceEqDiff, if_true, if_false] <;> rfl)
   ·skip
    intro g28_0 J21 hJ21
    simp only [List.take_succ_cons, List.take_zero]
    simp only [anyAt_cons, anyAt_nil] at hJ21
    refine pops_mvg (.inl rfl) rfl rfl (by simp only [upd_at, Nat.reduceEqDiff, if_true, if_false, g28_0]) (by simp only [St.eval, upd_at, Nat.reduceEqDiff, if_true, if_false, g28_0] <;> rfl) ?_
    refine pops_do rfl rfl (by simp only [upd_at, Nat.reduceEqDiff, if_true, if_false, g28_0]) fun M hM => ?_
    simp only [pop, St.eval, constSlot, upd_at, Nat.reduceEqDiff, if_true, if_false, popBin, binK, intK, eq_self, true_and, g28_0]
    refine hM _ _ ?_
    clear hM M
    refine pops_to rfl fun M hM => ?_
    simp only [pop, St.eval, constSlot, upd_at, Nat.reduceEqDiff, if_true, if_false, true_implies, false_implies, Bool.false_eq_true, true_and, g28_0]
    refine hM _ _ ?_
    clear hM M
    exact pops_done (hJ21 _ (wk_same (wk_any ((wk_any (Wk.refl _ _))))))
   ·skip
    intro g28_0 J21 hJ21
    simp only [List.take_succ_cons, List.take_zero]
    simp only [anyAt_cons, anyAt_nil] at hJ21
    refine pops_off (b := true) rfl rfl (by simp only [upd_at, Nat.reduceEqDiff, if_true, if_false, g28_0]) (by decide) ?_
    refine pops_off (b := true) rfl rfl (by simp only [upd_at, Nat.reduceEqDiff, if_true, if_false, g28_0]) (by decide) ?_
    refine pops_to rfl fun M hM => ?_
    simp only [pop, St.eval, constSlot, upd_at, Nat.reduceEqDiff, if_true, if_false, true_implies, false_implies, Bool.true_eq_false, and_true, g28_0]
    refine hM _ _ ?_
    clear hM M
    exact pops_done (hJ21 _ (wk_same (wk_any ((wk_any (Wk.refl _ _))))))
   simp only [List.drop_succ_cons, List.drop_zero, anyAt_cons, anyAt_nil]
   refine pops_mv (.inl rfl) rfl (by simp only [St.eval, upd_at, Nat.reduceEqDiff, if_true, if_false] <;> rfl) ?_
   apply pops_or0 4 32 36 [33, 34, 35] (by simp only [upd_at, Nat.reduceEqDiff, if_true, if_false] <;> rfl)
   ·skip
    intro g32_0 J22 hJ22
    simp only [List.take_succ_cons, List.take_zero]
    simp only [anyAt_cons, anyAt_nil] at hJ22
    refine pops_mvg (.inl rfl) rfl rfl (by simp only [upd_at, Nat.reduceEqDiff, if_true, if_false, g32_0]) (by simp only [St.eval, upd_at, Nat.reduceEqDiff, if_true, if_false, g32_0] <;> rfl) ?_
    refine pops_mvg (.inl rfl) rfl rfl (by simp only [upd_at, Nat.reduceEqDiff, if_true, if_false, g32_0]) (by simp only [St.eval, upd_at, Nat.reduceEqDiff, if_true, if_false, g32_0] <;> rfl) ?_
    refine pops_do rfl rfl (by simp only [upd_at, Nat.reduceEqDiff, if_true, if_false, g32_0]) fun M hM => ?_
    simp only [pop, St.eval, upd_at, Nat.reduceEqDiff, if_true, if_false, popBin, binK, intK, eq_self, true_and, g32_0]
    refine hM _ _ ?_
    clear hM M
    refine pops_to rfl fun M hM => ?_
    simp only [pop, St.eval, constSlot, upd_at, Nat.reduceEqDiff, if_true, if_false, true_implies, false_implies, Bool.false_eq_true, true_and, g32_0]
    refine hM _ _ ?_
    clear hM M
    exact pops_done (hJ22 _ (wk_same (wk_any ((wk_any ((wk_any (Wk.refl _ _))))))))
   ·skip
    intro g32_0 J22 hJ22
    simp only [List.take_succ_cons, List.take_zero]
    simp only [anyAt_cons, anyAt_nil] at hJ22
    refine pops_off (b := true) rfl rfl (by simp only [upd_at, Nat.reduceEqDiff, if_true, if_false, g32_0]) (by decide) ?_
    refine pops_off (b := true) rfl rfl (by simp only [upd_at, Nat.reduceEqDiff, if_true, if_false, g32_0]) (by decide) ?_
    refine pops_off (b := true) rfl rfl (by simp only [upd_at, Nat.reduceEqDiff, if_true, if_false, g32_0]) (by decide) ?_
    refine pops_to rfl fun M hM => ?_
    simp only [pop, St.eval, constSlot, upd_at, Nat.reduceEqDiff, if_true, if_false, true_implies, false_implies, Bool.true_eq_false, and_true, g32_0]
    refine hM _ _ ?_
    clear hM M
    exact pops_done (hJ22 _ (wk_same (wk_any ((wk_any ((wk_any (Wk.refl _ _))))))))
   simp only [List.drop_succ_cons, List.drop_zero, anyAt_cons, anyAt_nil]
   refine pops_mv (.inl rfl) rfl (by simp only [St.eval, upd_at, Nat.reduceEqDiff, if_true, if_false] <;> rfl) ?_
   apply pops_or0 7 37 44 [38, 39, 40, 41, 42, 43] (by simp only [upd_at, Nat.reduceEqDiff, if_true, if_false] <;> rfl)
   ·skip
    intro g37_0 J23 hJ23
    simp only [List.take_succ_cons, List.take_zero]
    simp only [anyAt_cons, anyAt_nil] at hJ23
    refine pops_mvg (.inl rfl) rfl rfl (by simp only [upd_at, Nat.reduceEqDiff, if_true, if_false, g37_0]) (by simp only [St.eval, upd_at, Nat.reduceEqDiff, if_true, if_false, g37_0] <;> rfl) ?_
    refine pops_do rfl rfl (by simp only [upd_at, Nat.reduceEqDiff, if_true, if_false, g37_0]) fun M hM => ?_
    simp only [pop, St.eval, constSlot, upd_at, Nat.reduceEqDiff, if_true, if_false, popBin, binK, intK, eq_self, true_and, g37_0]
    refine hM _ _ ?_
    clear hM M
    refine pops_mvg (.inl rfl) rfl rfl (by simp only [upd_at, Nat.reduceEqDiff, if_true, if_false, g37_0]) (by simp only [St.eval, upd_at, Nat.reduceEqDiff, if_true, if_false, g37_0] <;> rfl) ?_
    apply pops_and0 3 40 43 [41, 42] (by simp only [upd_at, Nat.reduceEqDiff, if_true, if_false, g37_0] <;> rfl)
    ·skip
     intro g40_1 J24 hJ24
     simp only [List.take_succ_cons, List.take_zero]
     simp only [anyAt_cons, anyAt_nil] at hJ24
     refine pops_mvg (.inl rfl) rfl rfl (by simp only [upd_at, Nat.reduceEqDiff, if_true, if_false, g37_0, g40_1]) (by simp only [St.eval, upd_at, Nat.reduceEqDiff, if_true, if_false, g37_0, g40_1] <;> rfl) ?_
     refine pops_do rfl rfl (by simp only [upd_at, Nat.reduceEqDiff, if_true, if_false, g37_0, g40_1]) fun M hM => ?_
     simp only [pop, St.eval, constSlot, upd_at, Nat.reduceEqDiff, if_true, if_false, popBin, binK, intK, eq_self, true_and, g37_0, g40_1]
     refine hM _ _ ?_
     clear hM M
     refine pops_do rfl rfl (by simp only [upd_at, Nat.reduceEqDiff, if_true, if_false, g37_0, g40_1]) fun M hM => ?_
     simp only [pop, St.eval, constSlot, upd_at, Nat.reduceEqDiff, if_true, if_false, true_implies, false_implies, Bool.true_eq_false, and_true, g37_0, g40_1]
     refine hM _ _ ?_
     clear hM M
     exact pops_done (hJ24 _ (wk_same (wk_any ((wk_any (Wk.refl _ _))))))
    ·skip
     intro g40_1 J24 hJ24
     simp only [List.take_succ_cons, List.take_zero]
     simp only [anyAt_cons, anyAt_nil] at hJ24
     refine pops_off (b := false) rfl rfl (by simp only [upd_at, Nat.reduceEqDiff, if_true, if_false, g37_0, g40_1]) (by decide) ?_
     refine pops_off (b := false) rfl rfl (by simp only [upd_at, Nat.reduceEqDiff, if_true, if_false, g37_0, g40_1]) (by decide) ?_
     refine pops_do rfl rfl (by simp only [upd_at, Nat.reduceEqDiff, if_true, if_false, g37_0, g40_1]) fun M hM => ?_
     simp only [pop, St.eval, constSlot, upd_at, Nat.reduceEqDiff, if_true, if_false, true_implies, false_implies, Bool.false_eq_true, true_and, g37_0, g40_1]
     refine hM _ _ ?_
     clear hM M
     exact pops_done (hJ24 _ (wk_same (wk_any ((wk_any (Wk.refl _ _))))))
    simp only [List.drop_succ_cons, List.drop_zero, anyAt_cons, anyAt_nil]
    refine pops_to rfl fun M hM => ?_
    simp only [pop, St.eval, constSlot, upd_at, Nat.reduceEqDiff, if_true, if_false, true_implies, false_implies, Bool.false_eq_true, true_and, g37_0]
    refine hM _ _ ?_
    clear hM M
    exact pops_done (hJ23 _ (wk_same (wk_any ((wk_any ((wk_any ((wk_any ((wk_any ((wk_any (Wk.refl _ _))))))))))))))
   ·skip
    intro g37_0 J23 hJ23
    simp only [List.take_succ_cons, List.take_zero]
    simp only [anyAt_cons, anyAt_nil] at hJ23
    refine pops_off (b := true) rfl rfl (by simp only [upd_at, Nat.reduceEqDiff, if_true, if_false, g37_0]) (by decide) ?_
    refine pops_off (b := true) rfl rfl (by simp only [upd_at, Nat.reduceEqDiff, if_true, if_false, g37_0]) (by decide) ?_
    refine pops_off (b := true) rfl rfl (by simp only [upd_at, Nat.reduceEqDiff, if_true, if_false, g37_0]) (by decide) ?_
    refine pops_off0 rfl rfl (by simp only [upd_at, Nat.reduceEqDiff, if_true, if_false, g37_0]) ?_
    refine pops_off0 rfl rfl (by simp only [upd_at, Nat.reduceEqDiff, if_true, if_false, g37_0]) ?_
    refine pops_off (b := true) rfl rfl (by simp only [upd_at, Nat.reduceEqDiff, if_true, if_false, g37_0]) (by decide) ?_
    refine pops_to rfl fun M hM => ?_
    simp only [pop, St.eval, constSlot, upd_at, Nat.reduceEqDiff, if_true, if_false, true_implies, false_implies, Bool.true_eq_false, and_true, g37_0]
    refine hM _ _ ?_
    clear hM M
    exact pops_done (hJ23 _ (wk_same (wk_any ((wk_any ((wk_any ((wk_any ((wk_any ((wk_any (Wk.refl _ _))))))))))))))
   simp only [List.drop_succ_cons, List.drop_zero, anyAt_cons, anyAt_nil]
   refine pops_done (hR18 _ ?_)
   clear hR18 R18
   try simp only [thenK]
   refine hN17 _ ?_
   clear hN17 N17
   refine pwp_cond (by simp only [St.eval, upd_at, Nat.reduceEqDiff, if_true, if_false] <;> rfl) (fun c44 => ?_) (fun c44 => ?_)
   ·skip
    have hb : rngBad x = true := by
      simp only [Bool.or_eq_true, Bool.and_eq_true, decide_eq_true_eq] at c44
      unfold rngBad
      simp only [Bool.or_eq_true, Bool.and_eq_true, decide_eq_true_eq]
      omega
    rw [if_pos hb] at hst
    refine pwp_then fun N25 hN25 => ?_
    refine pwp_reg fun R26 hR26 => ?_
    refine pops_mv (.inr rfl) rfl (by simp only [St.eval, constSlot] <;> rfl) ?_
    refine pops_done (hR26 _ ?_)
    clear hR26 R26
    try simp only [thenK]
    refine hN25 _ ?_
    clear hN25 N25
    refine pwp_ret ?_
    simp only [thenK, blockK, bodyK]
    clear hN16 N16 hN9 N9 hN3 N3
    refine ⟨_, rfl, endFun sq ?_⟩
    try simp only [upd_at, Nat.reduceEqDiff, if_true, if_false]
    all_goals
     rw [hst]
   ·skip
    have hb : rngBad x = false := by
      simp only [Bool.or_eq_false_iff, Bool.and_eq_false_iff, decide_eq_false_iff_not] at c44
      unfold rngBad
      simp only [Bool.or_eq_false_iff, Bool.and_eq_false_iff, decide_eq_false_iff_not]
      omega
    rw [if_neg (by rw [hb]; decide)] at hst
    refine pwp_skip ?_
    try simp only [thenK]
    refine hN16 _ ?_
    clear hN16 N16
    refine pwp_then fun N27 hN27 => ?_
    refine pwp_reg fun R28 hR28 => ?_
    refine pops_mv (.inl rfl) rfl (by simp only [St.eval, upd_at, Nat.reduceEqDiff, if_true, if_false] <;> rfl) ?_
    refine pops_to rfl fun M hM => ?_
    simp only [pop, St.eval, constSlot, upd_at, Nat.reduceEqDiff, if_true, if_false, popBin, binK, intK, eq_self, true_and]
    refine hM _ _ ?_
    clear hM M
    refine pops_mv (.inl rfl) rfl (by simp only [St.eval, upd_at, Nat.reduceEqDiff, if_true, if_false] <;> rfl) ?_
    apply pops_and0 10 47 57 [48, 49, 50, 51, 52, 53, 54, 55, 56] (by simp only [upd_at, Nat.reduceEqDiff, if_true, if_false] <;> rfl)
    ·skip
     intro g47_0 J29 hJ29
     simp only [List.take_succ_cons, List.take_zero]
     simp only [anyAt_cons, anyAt_nil] at hJ29
     have hi0 : 0 < i := by have := of_decide_eq_true g47_0; omega
     have hw51 := wrapp (i := i) (by omega) hi0
     have hgy := rng_prev hi hi0
     refine pops_mvg (.inl rfl) rfl rfl (by simp only [upd_at, Nat.reduceEqDiff, if_true, if_false, g47_0]) (by simp only [St.eval, upd_at, Nat.reduceEqDiff, if_true, if_false, g47_0] <;> rfl) ?_
     refine pops_mvg (.inl rfl) rfl rfl (by simp only [upd_at, Nat.reduceEqDiff, if_true, if_false, g47_0]) (by simp only [St.eval, upd_at, Nat.reduceEqDiff, if_false, e0_0, g47_0] <;> rfl) ?_
     refine pops_mvg (.inl rfl) rfl rfl (by simp only [upd_at, Nat.reduceEqDiff, if_true, if_false, g47_0]) (by simp only [St.eval, upd_at, Nat.reduceEqDiff, if_true, if_false, g47_0] <;> rfl) ?_
     refine pops_do rfl rfl (by simp only [upd_at, Nat.reduceEqDiff, if_true, if_false, g47_0]) fun M hM => ?_
     simp only [pop, St.eval, constSlot, upd_at, Nat.reduceEqDiff, if_true, if_false, popBin, binK, intK, eq_self, true_and, g47_0, hw51]
     refine hM _ _ ?_
     clear hM M
     refine pops_do rfl rfl (by simp only [upd_at, Nat.reduceEqDiff, if_true, if_false, g47_0]) fun M hM => ?_
     simp only [pop, St.eval, upd_at, Nat.reduceEqDiff, if_true, if_false, popIndexAddr, Tryd.underlying61, sz67, eq_self, true_and, g47_0, hgy, Int.toNat_natCast]
     refine ⟨Int.natCast_nonneg _, hM _ _ ?_⟩
     clear hM M
     refine pops_do rfl rfl (by simp only [upd_at, Nat.reduceEqDiff, if_true, if_false, g47_0]) fun M hM => ?_
     simp only [pop, St.eval, constSlot, upd_at, Nat.reduceEqDiff, if_true, if_false, popIndexAddr, Tryd.underlying67, sz3, eq_self, g47_0]
     refine ⟨by decide, by decide, hM _ _ ?_⟩
     clear hM M
     refine pops_do rfl rfl (by simp only [upd_at, Nat.reduceEqDiff, if_true, if_false, g47_0]) fun M hM => ?_
     simp only [pop, St.eval, upd_at, Nat.reduceEqDiff, if_true, if_false, popLoad, loadK, isAggD, Bool.false_eq_true, Tryd.underlying3, sz3, eq_self, g47_0]
     refine hM _ _ ?_
     clear hM M
     refine pops_do rfl rfl (by simp only [upd_at, Nat.reduceEqDiff, if_true, if_false, g47_0]) fun M hM => ?_
     simp only [pop, St.eval, constSlot, upd_at, Nat.reduceEqDiff, if_true, if_false, popBin, binK, intK, eq_self, true_and, g47_0]
     refine hM _ _ ?_
     clear hM M
     refine pops_do rfl rfl (by simp only [upd_at, Nat.reduceEqDiff, if_true, if_false, g47_0]) fun M hM => ?_
     simp only [pop, St.eval, upd_at, Nat.reduceEqDiff, if_true, if_false, popBin, binK, intK, eq_self, true_and, g47_0]
     refine hM _ _ ?_
     clear hM M
     refine pops_to rfl fun M hM => ?_
     simp only [pop, St.eval, constSlot, upd_at, Nat.reduceEqDiff, if_true, if_false, true_implies, false_implies, Bool.true_eq_false, and_true, g47_0]
     refine hM _ _ ?_
     clear hM M
     exact pops_done (hJ29 _ (wk_same (wk_any ((wk_any ((wk_any ((wk_any ((wk_any ((wk_any ((wk_any ((wk_any ((wk_any (Wk.refl _ _))))))))))))))))))))
    ·skip
     intro g47_0 J29 hJ29
     simp only [List.take_succ_cons, List.take_zero]
     simp only [anyAt_cons, anyAt_nil] at hJ29
     refine pops_off (b := false) rfl rfl (by simp only [upd_at, Nat.reduceEqDiff, if_true, if_false, g47_0]) (by decide) ?_
     refine pops_off (b := false) rfl rfl (by simp only [upd_at, Nat.reduceEqDiff, if_true, if_false, g47_0]) (by decide) ?_
     refine pops_off (b := false) rfl rfl (by simp only [upd_at, Nat.reduceEqDiff, if_true, if_false, g47_0]) (by decide) ?_
     refine pops_off (b := false) rfl rfl (by simp only [upd_at, Nat.reduceEqDiff, if_true, if_false, g47_0]) (by decide) ?_
     refine pops_off (b := false) rfl rfl (by simp only [upd_at, Nat.reduceEqDiff, if_true, if_false, g47_0]) (by decide) ?_
     refine pops_off (b := false) rfl rfl (by simp only [upd_at, Nat.reduceEqDiff, if_true, if_false, g47_0]) (by decide) ?_
     refine pops_off (b := false) rfl rfl (by simp only [upd_at, Nat.reduceEqDiff, if_true, if_false, g47_0]) (by decide) ?_
     refine pops_off (b := false) rfl rfl (by simp only [upd_at, Nat.reduceEqDiff, if_true, if_false, g47_0]) (by decide) ?_
     refine pops_off (b := false) rfl rfl (by simp only [upd_at, Nat.reduceEqDiff, if_true, if_false, g47_0]) (by decide) ?_
     refine pops_to rfl fun M hM => ?_
     simp only [pop, St.eval, constSlot, upd_at, Nat.reduceEqDiff, if_true, if_false, true_implies, false_implies, Bool.false_eq_true, true_and, g47_0]
     refine hM _ _ ?_
     clear hM M
     exact pops_done (hJ29 _ (wk_same (wk_any ((wk_any ((wk_any ((wk_any ((wk_any ((wk_any ((wk_any ((wk_any ((wk_any (Wk.refl _ _))))))))))))))))))))
    simp only [List.drop_succ_cons, List.drop_zero, anyAt_cons, anyAt_nil]
    refine pops_done (hR28 _ ?_)
    clear hR28 R28
    try simp only [thenK]
    refine hN27 _ ?_
    clear hN27 N27
    refine pwp_cond (by simp only [St.eval, upd_at, Nat.reduceEqDiff, if_true, if_false] <;> rfl) (fun c57 => ?_) (fun c57 => ?_)
    ·skip
     have hor : (decide (0 < i) && decide (x.1 ≤ (r.getD (i - 1) (0, 0)).2 + 1)) = true := by
       simp only [Bool.and_eq_true, decide_eq_true_eq] at c57 ⊢
       obtain ⟨h1, h2⟩ := c57
       have hi0 : 0 < i := by omega
       have hg := hx0_2 _ (getD_mem (0, 0) hi hi0)
       simp only [rngBad, Bool.or_eq_false_iff, decide_eq_false_iff_not] at hg
       rw [wrap_i64 (by omega) (by omega)] at h2
       exact ⟨hi0, h2⟩
     rw [if_pos hor] at hst
     refine pwp_then fun N30 hN30 => ?_
     refine pwp_reg fun R31 hR31 => ?_
     refine pops_mv (.inr rfl) rfl (by simp only [St.eval, constSlot] <;> rfl) ?_
     refine pops_done (hR31 _ ?_)
     clear hR31 R31
     try simp only [thenK]
     refine hN30 _ ?_
     clear hN30 N30
     refine pwp_ret ?_
     simp only [thenK, blockK, bodyK]
     clear hN9 N9 hN3 N3
     refine ⟨_, rfl, endFun sq ?_⟩
     try simp only [upd_at, Nat.reduceEqDiff, if_true, if_false]
     all_goals
      rw [hst]
    ·skip
     have hor : ¬ (decide (0 < i) && decide (x.1 ≤ (r.getD (i - 1) (0, 0)).2 + 1)) = true := by
       intro h9
       simp only [Bool.and_eq_true, decide_eq_true_eq] at h9
       obtain ⟨hi0, h2⟩ := h9
       have hg := hx0_2 _ (getD_mem (0, 0) hi hi0)
       simp only [rngBad, Bool.or_eq_false_iff, decide_eq_false_iff_not] at hg
       simp only [Bool.and_eq_false_iff, decide_eq_false_iff_not] at c57
       rw [wrap_i64 (by omega) (by omega)] at c57
       omega
     rw [if_neg hor] at hst
     refine pwp_skip ?_
     try simp only [blockK, thenK]
     try simp only [thenK, scopeK]
     refine hN9 _ ?_
     clear hN9 N9
     refine pwp_reg fun R32 hR32 => ?_
     refine pops_to rfl fun M hM => ?_
     simp only [pop, St.eval, constSlot, upd_at, Nat.reduceEqDiff, if_false, popBin, binK, intK, eq_self, true_and, e0_9]
     refine hM _ _ ?_
     clear hM M
     refine pops_mv (.inl rfl) rfl (by simp only [St.eval, upd_at, Nat.reduceEqDiff, if_true, if_false] <;> rfl) ?_
     refine pops_done (hR32 _ ?_)
     clear hR32 R32
     try simp only [thenK]
     exact ⟨_, by omega, _, .refl _ _, i + 1, rfl, by omega, hst.symm, take_nextG hx0_2 hx hb, sq, by simp only [upd_at, Nat.reduceEqDiff, if_false, e0_0], by simp only [upd_at, Nat.reduceEqDiff, if_false, e0_7], by simp only [upd_at, Nat.reduceEqDiff, if_false, e0_8], by simp only [upd_at, Nat.reduceEqDiff, if_true, if_false, e0_9]; rw [wrap_succ (by omega)]⟩
  ·skip
   obtain rfl : i = r.length := by have := of_decide_eq_false c10; omega
   rw [List.drop_length, rngE] at hx0_1
   refine pwp_exit ?_
   try simp only [thenK, blockK, if_true]
   clear hN8 N8
   try simp only [blockK, scopeK, if_true, Nat.reduceEqDiff, if_false, thenK]
   try simp only [thenK, scopeK]
   refine hN3 _ ?_
   clear hN3 N3
   refine pwp_then fun N33 hN33 => ?_
   refine pwp_reg fun R34 hR34 => ?_
   refine pops_mv (.inr rfl) rfl (by simp only [St.eval, constSlot] <;> rfl) ?_
   refine pops_done (hR34 _ ?_)
   clear hR34 R34
   try simp only [thenK]
   refine hN33 _ ?_
   clear hN33 N33
   refine pwp_ret ?_
   simp only [bodyK]
   refine ⟨_, rfl, endFun sl0 ?_⟩
   try simp only [upd_at, Nat.reduceEqDiff, if_true, if_false]
   all_goals
    rw [← hx0_1]
theorem nm66 : (Tryd.f66.name == "runtime.NumGoroutine") = false := by kernel_rfl
theorem isText_fun (W0 : World) (l : List GPart) (i : Int) :
  PFun Tryd.prog W0 66 [.one (pint i), .one (.rop [.ro false 5 (encL l)])] (.sv (.one (pbool (textAt l i)))) := by
 intro h
 refine pcalls2 (n := 20) Tryd.func66 rfl nm66 rfl fun hb => ?_
 refine pwp_then fun N1 hN1 => ?_
 refine pwp_reg fun R2 hR2 => ?_
 refine pops_mv (.inr rfl) rfl (by simp only [St.eval, constSlot] <;> rfl) ?_
 refine pops_done (hR2 _ ?_)
 clear hR2 R2
 try simp only [thenK]
 refine hN1 _ ?_
 clear hN1 N1
 refine pwp_then fun N3 hN3 => ?_
 refine pwp_reg fun R4 hR4 => ?_
 refine pops_mv (.inl rfl) rfl (by simp only [St.eval, upd_at, Nat.reduceEqDiff, if_true, if_false] <;> rfl) ?_
 refine pops_to rfl fun M hM => ?_
 simp only [pop, St.eval, constSlot, upd_at, Nat.reduceEqDiff, if_true, if_false, popBin, binK, intK, eq_self, true_and]
 refine hM _ _ ?_
 clear hM M
 refine pops_mv (.inl rfl) rfl (by simp only [St.eval, upd_at, Nat.reduceEqDiff, if_true, if_false] <;> rfl) ?_
 apply pops_and0 5 6 11 [7, 8, 9, 10] (by simp only [upd_at, Nat.reduceEqDiff, if_true, if_false] <;> rfl)
 ·skip
  intro g6_0 J5 hJ5
  simp only [List.take_succ_cons, List.take_zero]
  simp only [anyAt_cons, anyAt_nil] at hJ5
  refine pops_mvg (.inl rfl) rfl rfl (by simp only [upd_at, Nat.reduceEqDiff, if_true, if_false, g6_0]) (by simp only [St.eval, upd_at, Nat.reduceEqDiff, if_true, if_false, g6_0] <;> rfl) ?_
  refine pops_do rfl rfl (by simp only [upd_at, Nat.reduceEqDiff, if_true, if_false, g6_0]) fun M hM => ?_
  simp only [pop, St.eval, upd_at, Nat.reduceEqDiff, if_true, if_false, popLoad, loadK, isAggD, Bool.false_eq_true, Tryd.underlying22, sz22, eq_self, g6_0]
  refine hM _ _ ?_
  clear hM M
  refine pops_do rfl rfl (by simp only [upd_at, Nat.reduceEqDiff, if_true, if_false, g6_0]) fun M hM => ?_
  simp only [pop, St.eval, upd_at, Nat.reduceEqDiff, if_true, if_false, popCall, List.map_cons, List.map_nil, popBuiltin, popLen, lenOfSlot, Tryd.underlying22, eq_self, g6_0, encL_len]
  refine hM _ _ ?_
  clear hM M
  refine pops_do rfl rfl (by simp only [upd_at, Nat.reduceEqDiff, if_true, if_false, g6_0]) fun M hM => ?_
  simp only [pop, St.eval, upd_at, Nat.reduceEqDiff, if_true, if_false, popBin, binK, intK, eq_self, true_and, g6_0]
  refine hM _ _ ?_
  clear hM M
  refine pops_to rfl fun M hM => ?_
  simp only [pop, St.eval, constSlot, upd_at, Nat.reduceEqDiff, if_true, if_false, true_implies, false_implies, Bool.true_eq_false, reduceCtorEq, and_true, g6_0]
  refine hM _ _ ?_
  clear hM M
  exact pops_done (hJ5 _ (wk_same (wk_any ((wk_any ((wk_any ((wk_any (Wk.refl _ _))))))))))
 ·skip
  intro g6_0 J5 hJ5
  simp only [List.take_succ_cons, List.take_zero]
  simp only [anyAt_cons, anyAt_nil] at hJ5
  refine pops_off (b := false) rfl rfl (by simp only [upd_at, Nat.reduceEqDiff, if_true, if_false, g6_0]) (by decide) ?_
  refine pops_off (b := false) rfl rfl (by simp only [upd_at, Nat.reduceEqDiff, if_true, if_false, g6_0]) (by decide) ?_
  refine pops_off (b := false) rfl rfl (by simp only [upd_at, Nat.reduceEqDiff, if_true, if_false, g6_0]) (by decide) ?_
  refine pops_off (b := false) rfl rfl (by simp only [upd_at, Nat.reduceEqDiff, if_true, if_false, g6_0]) (by decide) ?_
  refine pops_to rfl fun M hM => ?_
  simp only [pop, St.eval, constSlot, upd_at, Nat.reduceEqDiff, if_true, if_false, true_implies, false_implies, Bool.false_eq_true, reduceCtorEq, true_and, g6_0]
  refine hM _ _ ?_
  clear hM M
  exact pops_done (hJ5 _ (wk_same (wk_any ((wk_any ((wk_any ((wk_any (Wk.refl _ _))))))))))
 simp only [List.drop_succ_cons, List.drop_zero, anyAt_cons, anyAt_nil]
 refine pops_mv (.inl rfl) rfl (by simp only [St.eval, upd_at, Nat.reduceEqDiff, if_true, if_false] <;> rfl) ?_
 apply pops_and0 7 12 19 [13, 14, 15, 16, 17, 18] (by simp only [upd_at, Nat.reduceEqDiff, if_true, if_false] <;> rfl)
 ·skip
  intro g12_0 J6 hJ6
  simp only [List.take_succ_cons, List.take_zero]
  simp only [anyAt_cons, anyAt_nil] at hJ6
  have hq9 := g12_0
  simp only [Bool.and_eq_true, decide_eq_true_eq] at hq9
  have hi0 : 0 ≤ i := by omega
  have hgt := encL_getD (l := l) hi0 (by omega)
  rw [encG_eq] at hgt
  refine pops_do rfl rfl (by simp only [upd_at, Nat.reduceEqDiff, if_true, if_false, g12_0]) fun M hM => ?_
  simp only [pop, St.eval, upd_at, Nat.reduceEqDiff, if_true, if_false, popLoad, loadK, isAggD, Bool.false_eq_true, Tryd.underlying22, sz22, eq_self, g12_0]
  refine hM _ _ ?_
  clear hM M
  refine pops_mvg (.inl rfl) rfl rfl (by simp only [upd_at, Nat.reduceEqDiff, if_true, if_false, g12_0]) (by simp only [St.eval, upd_at, Nat.reduceEqDiff, if_true, if_false, g12_0] <;> rfl) ?_
  refine pops_do rfl rfl (by simp only [upd_at, Nat.reduceEqDiff, if_true, if_false, g12_0]) fun M hM => ?_
  simp only [pop, St.eval, upd_at, Nat.reduceEqDiff, if_true, if_false, popIndexAddr, Tryd.underlying22, sz64, eq_self, true_and, g12_0, hgt]
  refine ⟨hi0, hM _ _ ?_⟩
  clear hM M
  refine pops_do rfl rfl (by simp only [upd_at, Nat.reduceEqDiff, if_true, if_false, g12_0]) fun M hM => ?_
  simp only [pop, St.eval, upd_at, Nat.reduceEqDiff, if_true, if_false, popFieldAddr, fieldOf, List.drop_zero, List.getElem?_toArray, List.getElem?_cons_zero, Tryd.underlying64, sz3, g12_0]
  refine ⟨⟨_, rfl⟩, hM _ _ ?_⟩
  clear hM M
  refine pops_do rfl rfl (by simp only [upd_at, Nat.reduceEqDiff, if_true, if_false, g12_0]) fun M hM => ?_
  simp only [pop, St.eval, upd_at, Nat.reduceEqDiff, if_true, if_false, popLoad, loadK, isAggD, Bool.false_eq_true, Tryd.underlying3, sz3, eq_self, g12_0]
  refine hM _ _ ?_
  clear hM M
  refine pops_do rfl rfl (by simp only [upd_at, Nat.reduceEqDiff, if_true, if_false, g12_0]) fun M hM => ?_
  simp only [pop, St.eval, constSlot, upd_at, Nat.reduceEqDiff, if_true, if_false, popBin, binK, intK, eq_self, true_and, g12_0]
  refine hM _ _ ?_
  clear hM M
  refine pops_to rfl fun M hM => ?_
  simp only [pop, St.eval, constSlot, upd_at, Nat.reduceEqDiff, if_true, if_false, true_implies, false_implies, Bool.true_eq_false, reduceCtorEq, and_true, g12_0]
  refine hM _ _ ?_
  clear hM M
  exact pops_done (hJ6 _ (wk_same (wk_any ((wk_any ((wk_any ((wk_any ((wk_any ((wk_any (Wk.refl _ _))))))))))))))
 ·skip
  intro g12_0 J6 hJ6
  simp only [List.take_succ_cons, List.take_zero]
  simp only [anyAt_cons, anyAt_nil] at hJ6
  refine pops_off (b := false) rfl rfl (by simp only [upd_at, Nat.reduceEqDiff, if_true, if_false, g12_0]) (by decide) ?_
  refine pops_off (b := false) rfl rfl (by simp only [upd_at, Nat.reduceEqDiff, if_true, if_false, g12_0]) (by decide) ?_
  refine pops_off (b := false) rfl rfl (by simp only [upd_at, Nat.reduceEqDiff, if_true, if_false, g12_0]) (by decide) ?_
  refine pops_off (b := false) rfl rfl (by simp only [upd_at, Nat.reduceEqDiff, if_true, if_false, g12_0]) (by decide) ?_
  refine pops_off (b := false) rfl rfl (by simp only [upd_at, Nat.reduceEqDiff, if_true, if_false, g12_0]) (by decide) ?_
  refine pops_off (b := false) rfl rfl (by simp only [upd_at, Nat.reduceEqDiff, if_true, if_false, g12_0]) (by decide) ?_
  refine pops_to rfl fun M hM => ?_
  simp only [pop, St.eval, constSlot, upd_at, Nat.reduceEqDiff, if_true, if_false, true_implies, false_implies, Bool.false_eq_true, reduceCtorEq, true_and, g12_0]
  refine hM _ _ ?_
  clear hM M
  exact pops_done (hJ6 _ (wk_same (wk_any ((wk_any ((wk_any ((wk_any ((wk_any ((wk_any (Wk.refl _ _))))))))))))))
 simp only [List.drop_succ_cons, List.drop_zero, anyAt_cons, anyAt_nil]
 refine pops_mv (.inr rfl) rfl (by simp only [St.eval, upd_at, Nat.reduceEqDiff, if_true, if_false] <;> rfl) ?_
 refine pops_done (hR4 _ ?_)
 clear hR4 R4
 try simp only [thenK]
 refine hN3 _ ?_
 clear hN3 N3
 refine pwp_ret ?_
 simp only [bodyK]
 refine ⟨_, rfl, endFun (Same.refl _) ?_⟩
 try simp only [upd_at, Nat.reduceEqDiff, if_true, if_false]
 all_goals
  rfl
theorem nm69 : (Tryd.f69.name == "runtime.NumGoroutine") = false := by kernel_rfl
theorem star_fun (W0 : World) (g : GPart) :
  PFun Tryd.prog W0 69 [.agg [pint g.kind, pstr g.text, pbool g.neg, .ro false 2 (rngPV g.ranges), .ro false 1 (encW g.ways)]] (.sv (.one (pbool (starB g)))) := by
 intro h
 refine pcalls1 (n := 11) Tryd.func69 rfl nm69 rfl fun hb => ?_
 refine pwp_then fun N1 hN1 => ?_
 refine pwp_reg fun R2 hR2 => ?_
 refine pops_to rfl fun M hM => ?_
 simp only [pop, St.eval, upd_at, if_true, popBox, popBoxRo, slotCells]
 refine .inr ⟨Nat.succ_pos _, hM _ _ ?_⟩
 clear hM M
 refine pops_mv (.inr rfl) rfl (by simp only [St.eval, constSlot] <;> rfl) ?_
 refine pops_done (hR2 _ ?_)
 clear hR2 R2
 try simp only [thenK]
 refine hN1 _ ?_
 clear hN1 N1
 refine pwp_then fun N3 hN3 => ?_
 refine pwp_reg fun R4 hR4 => ?_
 refine pops_to rfl fun M hM => ?_
 simp only [pop, St.eval, upd_at, Nat.reduceEqDiff, if_true, if_false, popFieldAddr, fieldOf, List.drop_zero, List.getElem?_toArray, List.getElem?_cons_zero, Tryd.underlying64, sz3]
 refine ⟨⟨_, rfl⟩, hM _ _ ?_⟩
 clear hM M
 refine pops_to rfl fun M hM => ?_
 simp only [pop, St.eval, upd_at, Nat.reduceEqDiff, if_true, if_false, popLoad, loadK, isAggD, Bool.false_eq_true, Tryd.underlying3, sz3, eq_self]
 refine hM _ _ ?_
 clear hM M
 refine pops_to rfl fun M hM => ?_
 simp only [pop, St.eval, constSlot, upd_at, Nat.reduceEqDiff, if_true, if_false, popBin, binK, intK, eq_self, true_and]
 refine hM _ _ ?_
 clear hM M
 refine pops_mv (.inl rfl) rfl (by simp only [St.eval, upd_at, Nat.reduceEqDiff, if_true, if_false] <;> rfl) ?_
 apply pops_or0 4 6 10 [7, 8, 9] (by simp only [upd_at, Nat.reduceEqDiff, if_true, if_false] <;> rfl)
 ·skip
  intro g6_0 J5 hJ5
  simp only [List.take_succ_cons, List.take_zero]
  simp only [anyAt_cons, anyAt_nil] at hJ5
  refine pops_do rfl rfl (by simp only [upd_at, Nat.reduceEqDiff, if_true, if_false, g6_0]) fun M hM => ?_
  simp only [pop, St.eval, upd_at, Nat.reduceEqDiff, if_true, if_false, popFieldAddr, fieldOf, List.drop_zero, List.getElem?_toArray, List.getElem?_cons_zero, Tryd.underlying64, sz3, g6_0]
  refine ⟨⟨_, rfl⟩, hM _ _ ?_⟩
  clear hM M
  refine pops_do rfl rfl (by simp only [upd_at, Nat.reduceEqDiff, if_true, if_false, g6_0]) fun M hM => ?_
  simp only [pop, St.eval, upd_at, Nat.reduceEqDiff, if_true, if_false, popLoad, loadK, isAggD, Bool.false_eq_true, Tryd.underlying3, sz3, eq_self, g6_0]
  refine hM _ _ ?_
  clear hM M
  refine pops_do rfl rfl (by simp only [upd_at, Nat.reduceEqDiff, if_true, if_false, g6_0]) fun M hM => ?_
  simp only [pop, St.eval, constSlot, upd_at, Nat.reduceEqDiff, if_true, if_false, popBin, binK, intK, eq_self, true_and, g6_0]
  refine hM _ _ ?_
  clear hM M
  refine pops_to rfl fun M hM => ?_
  simp only [pop, St.eval, constSlot, upd_at, Nat.reduceEqDiff, if_true, if_false, true_implies, false_implies, Bool.false_eq_true, reduceCtorEq, true_and, g6_0]
  refine hM _ _ ?_
  clear hM M
  exact pops_done (hJ5 _ (wk_same (wk_any ((wk_any ((wk_any (Wk.refl _ _))))))))
 ·skip
  intro g6_0 J5 hJ5
  simp only [List.take_succ_cons, List.take_zero]
  simp only [anyAt_cons, anyAt_nil] at hJ5
  refine pops_off (b := true) rfl rfl (by simp only [upd_at, Nat.reduceEqDiff, if_true, if_false, g6_0]) (by decide) ?_
  refine pops_off (b := true) rfl rfl (by simp only [upd_at, Nat.reduceEqDiff, if_true, if_false, g6_0]) (by decide) ?_
  refine pops_off (b := true) rfl rfl (by simp only [upd_at, Nat.reduceEqDiff, if_true, if_false, g6_0]) (by decide) ?_
  refine pops_to rfl fun M hM => ?_
  simp only [pop, St.eval, constSlot, upd_at, Nat.reduceEqDiff, if_true, if_false, true_implies, false_implies, Bool.true_eq_false, reduceCtorEq, and_true, g6_0]
  refine hM _ _ ?_
  clear hM M
  exact pops_done (hJ5 _ (wk_same (wk_any ((wk_any ((wk_any (Wk.refl _ _))))))))
 simp only [List.drop_succ_cons, List.drop_zero, anyAt_cons, anyAt_nil]
 refine pops_mv (.inr rfl) rfl (by simp only [St.eval, upd_at, Nat.reduceEqDiff, if_true, if_false] <;> rfl) ?_
 refine pops_done (hR4 _ ?_)
 clear hR4 R4
 try simp only [thenK]
 refine hN3 _ ?_
 clear hN3 N3
 refine pwp_ret ?_
 simp only [bodyK]
 refine ⟨_, rfl, endFun (Same.refl _) ?_⟩
 try simp only [upd_at, Nat.reduceEqDiff, if_true, if_false]
 all_goals
  rw [starB]; rfl
end Go.Pw
