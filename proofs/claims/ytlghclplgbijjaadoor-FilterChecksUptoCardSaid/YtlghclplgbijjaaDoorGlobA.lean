/- Own work: part of the proof of the row YtlghclplgbijjaaDoorRowFilterChecksUpto; no condition of its own. -/
import Derived.Test.YtlghclplgbijjaaDoorGlobP
import Derived.Test.YtlghclplgbijjaaDoorGFacts
namespace Go.Pw
open Go Go.RowKit Go.Proofs
set_option maxRecDepth 100000
set_option linter.unusedSimpArgs false
set_option linter.unusedVariables false
theorem maxZ (x y : Nat) : (if ((y : Nat) : Int) > ((x : Nat) : Int) then ((y : Nat) : Int) else ((x : Nat) : Int)) = ((max x y : Nat) : Int) := by split <;> omega
theorem max1Z (x : Nat) : (if (1 : Int) > ((x : Nat) : Int) then (1 : Int) else ((x : Nat) : Int)) = ((max x 1 : Nat) : Int) := by split <;> omega
def dW (k : Int) (w : List (List GPart)) : Nat := if w = [] then 0 else deepW w + if k = 6 then 1 else 0
theorem dW_take {k : Int} {w : List (List GPart)} {j : Nat} {v : List GPart} (h : w[j]? = some v) : dW k (w.take (j + 1)) = max (dW k (w.take j)) (deepL v + if k = 6 then 1 else 0) := by
  have hl := (List.getElem?_eq_some_iff.1 h).1
  have h1 : w.take (j + 1) ≠ [] := by
    intro e
    have := congrArg List.length e
    rw [List.length_take, List.length_nil] at this
    omega
  unfold dW
  rw [if_neg h1, deepW_take h]
  by_cases h2 : w.take j = []
  · rw [if_pos h2, h2, deepW]; omega
  · rw [if_neg h2]; omega
theorem dW_all (g : GPart) : deepG g = if g.kind = 6 then max (dW g.kind g.ways) 1 else dW g.kind g.ways := by
  rw [deepG_eq]
  unfold dW
  by_cases h : g.ways = []
  · rw [if_pos h, h, deepW]; split <;> rfl
  · rw [if_neg h]; split <;> omega
theorem cntL_tk (l : List GPart) (i : Nat) : cntL (l.take i) ≤ cntL l := by
  have := cntL_app (l.take i) (l.drop i)
  rw [List.take_append_drop] at this
  omega
theorem deepL_tk (l : List GPart) (i : Nat) : deepL (l.take i) ≤ deepL l := by
  have := deepL_app (l.take i) (l.drop i)
  rw [List.take_append_drop] at this
  omega
theorem cntW_tk (w : List (List GPart)) (i : Nat) : cntW (w.take i) ≤ cntW w := by
  have := cntW_app (w.take i) (w.drop i)
  rw [List.take_append_drop] at this
  omega
theorem deepW_tk (w : List (List GPart)) (i : Nat) : deepW (w.take i) ≤ deepW w := by
  have := deepW_app (w.take i) (w.drop i)
  rw [List.take_append_drop] at this
  omega
theorem cnt_at {l : List GPart} {i : Nat} {g : GPart} (h : l[i]? = some g) : cntL (l.take i) + (1 + cntW g.ways) ≤ cntL l := by
  have := cntL_tk l (i + 1)
  rw [cntL_take h] at this
  exact this
theorem addN {a b : Nat} (h : a + b ≤ 9223372036854775807) : IntKind.i64.wrap ((a : Int) + (b : Int)) = ((a + b : Nat) : Int) := by rw [wrap_i64 (by omega) (by omega)]; omega
theorem rec_parts {Q : List GPart → Prop} (H : ∀ l, (∀ l', lW l' < lW l → Q l') → Q l) (l : List GPart) : Q l := by
  have key : ∀ n l, lW l < n → Q l := fun n => by
    induction n with
    | zero => intro l h; omega
    | succ n ih => exact fun l h => H l fun l' h' => ih l' (by omega)
  exact key (lW l + 1) l (Nat.lt_succ_self _)
theorem nm22 : (Tryd.f22.name == "runtime.NumGoroutine") = false := by kernel_rfl
set_option maxHeartbeats 2000000 in
theorem globSize_fun1 (W0 : World) (l : List GPart) (hl : lW l ≤ 1048576) (ih : ∀ l' : List GPart, lW l' < lW l → lW l' ≤ 1048576 → PFun Tryd.prog W0 22 [.one (.ro false 5 (encL l'))] (.tup [.one (pint (cntL l' : Nat)), .one (pint (deepL l' : Nat))])) :
  PFun Tryd.prog W0 22 [.one (.ro false 5 (encL l))] (.tup [.one (pint (cntL l : Nat)), .one (pint (deepL l : Nat))]) := by
 intro h
 have hcl := cntL_le l
 have hln := lW_len l
 refine pcalls1 (n := 50) Tryd.func22 rfl nm22 rfl fun hb => ?_
 refine pwp_then fun N1 hN1 => ?_
 refine pwp_reg fun R2 hR2 => ?_
 refine pops_mv (.inr rfl) rfl (by simp only [St.eval, constSlot] <;> rfl) ?_
 refine pops_mv (.inr rfl) rfl (by simp only [St.eval, constSlot] <;> rfl) ?_
 refine pops_done (hR2 _ ?_)
 clear hR2 R2
 try simp only [thenK]
 refine hN1 _ ?_
 clear hN1 N1
 refine pwp_then fun N3 hN3 => ?_
 refine pwp_then fun N4 hN4 => ?_
 refine pwp_reg fun R5 hR5 => ?_
 refine pops_mv (.inl rfl) rfl (by simp only [St.eval, upd_at, Nat.reduceEqDiff, if_true, if_false] <;> rfl) ?_
 refine pops_to rfl fun M hM => ?_
 simp only [pop, St.eval, upd_at, Nat.reduceEqDiff, if_true, if_false, popCall, List.map_cons, List.map_nil, popBuiltin, popLen, lenOfSlot, Tryd.underlying22, eq_self]
 refine hM _ _ ?_
 clear hM M
 refine pops_mv (.inl rfl) rfl (by simp only [St.eval, constSlot] <;> rfl) ?_
 refine pops_done (hR5 _ ?_)
 clear hR5 R5
 try simp only [thenK]
 refine hN4 _ ?_
 clear hN4 N4
 refine pwp_block ?_
 refine pwp_loop (fun k σ => ∃ (i : Nat), (k = l.length - i) ∧ (i ≤ l.length) ∧ (Same h σ.hp) ∧ (σ.env 10 = .sv (.one (.ro false 5 (encL l)))) ∧ (σ.env 11 = .sv (.one (pint ((encL l).length : Nat)))) ∧ (σ.env 12 = .sv (.one (pint (i : Nat)))) ∧ (σ.env 2 = .sv (.one (pint (cntL (l.take i) : Nat)))) ∧ (σ.env 3 = .sv (.one (pint (deepL (l.take i) : Nat))))) _ ⟨_, .refl _ _, 0, rfl, ?_⟩ ?_
 · exact ⟨Nat.zero_le _, (Same.refl _), by simp only [upd_at, Nat.reduceEqDiff, if_true, if_false], by simp only [upd_at, Nat.reduceEqDiff, if_true, if_false], by simp only [upd_at, Nat.reduceEqDiff, if_true, if_false] <;> rfl, by simp only [upd_at, Nat.reduceEqDiff, if_true, if_false] <;> rfl, by simp only [upd_at, Nat.reduceEqDiff, if_true, if_false] <;> rfl⟩
 ·rintro k ⟨e, hp0⟩ ⟨i, hk0, hx0_0, sl0, e0_10, e0_11, e0_12, e0_2, e0_3⟩
  simp only at sl0 e0_10 e0_11 e0_12 e0_2 e0_3
  refine pwp_then fun N6 hN6 => ?_
  refine pwp_reg fun R7 hR7 => ?_
  refine pops_to rfl fun M hM => ?_
  simp only [pop, St.eval, popBin, binK, intK, eq_self, true_and, e0_11, e0_12]
  refine hM _ _ ?_
  clear hM M
  refine pops_done (hR7 _ ?_)
  clear hR7 R7
  try simp only [thenK]
  refine hN6 _ ?_
  clear hN6 N6
  refine pwp_then fun N8 hN8 => ?_
  refine pwp_cond (by simp only [St.eval, upd_at, if_true] <;> rfl) (fun c13 => ?_) (fun c13 => ?_)
  ·skip
   have hi : i < l.length := by have := of_decide_eq_true c13; rw [encL_len] at this; omega
   obtain ⟨g, hg⟩ : ∃ g, l[i]? = some g := ⟨_, List.getElem?_eq_getElem hi⟩
   have hget := encL_at hg
   rw [encG_eq] at hget
   have hgw := lW_at hg
   have hge := gW_eq g
   have hct := cnt_at hg
   have hdt := deepL_tk l i
   have hwn := wW_len g.ways
   have hcw := cntW_le g.ways
   have hw17 : IntKind.i64.wrap (((cntL (l.take i) : Nat) : Int) + 1) = ((cntL (l.take i) + 1 : Nat) : Int) := addN (b := 1) (by omega)
   refine pwp_skip ?_
   try simp only [thenK]
   refine hN8 _ ?_
   clear hN8 N8
   refine pwp_then fun N9 hN9 => ?_
   refine pwp_block ?_
   refine pwp_then fun N10 hN10 => ?_
   refine pwp_reg fun R11 hR11 => ?_
   refine pops_to rfl fun M hM => ?_
   simp only [pop, St.eval, upd_at, Nat.reduceEqDiff, if_false, popIndexAddr, Tryd.underlying22, sz64, eq_self, true_and, e0_10, e0_12, hget, Int.toNat_natCast]
   refine ⟨Int.natCast_nonneg _, hM _ _ ?_⟩
   clear hM M
   refine pops_to rfl fun M hM => ?_
   simp only [pop, St.eval, upd_at, Nat.reduceEqDiff, if_true, if_false, List.length_cons, List.length_nil, Nat.zero_add, Nat.reduceAdd, Nat.reduceLeDiff, List.take_succ_cons, List.take_nil, popLoad, loadK, isAggD, Tryd.underlying64, sz64, eq_self, true_and]
   refine hM _ _ ?_
   clear hM M
   refine pops_var (hpOk.same hb sl0) rfl ze64 (zs := [PV.val (.int .i64 0), PV.val (.string ⟨#[]⟩), PV.val (.bool false), PV.val (.slice none 0 0), PV.val (.slice none 0 0)]) (by kernel_rfl) (by simp) (by simp only [St.eval, slotCells, upd_at, Nat.reduceEqDiff, if_true, if_false] <;> rfl) (by rfl) (by exact Nat.succ_pos _) (by rw [sz64]; rfl) (fun hv12 sv12 => ?_)
   replace sv12 := Same.trans sl0 sv12
   refine pops_done (hR11 _ ?_)
   clear hR11 R11
   try simp only [thenK]
   refine hN10 _ ?_
   clear hN10 N10
   refine pwp_then fun N13 hN13 => ?_
   refine pwp_reg fun R14 hR14 => ?_
   refine pops_mv (.inl rfl) rfl (by simp only [St.eval, upd_at, Nat.reduceEqDiff, if_false, e0_2] <;> rfl) ?_
   refine pops_to rfl fun M hM => ?_
   simp only [pop, St.eval, constSlot, upd_at, Nat.reduceEqDiff, if_true, if_false, popBin, binK, intK, eq_self, true_and, hw17]
   refine hM _ _ ?_
   clear hM M
   refine pops_mv (.inr rfl) rfl (by simp only [St.eval, upd_at, Nat.reduceEqDiff, if_true, if_false] <;> rfl) ?_
   refine pops_done (hR14 _ ?_)
   clear hR14 R14
   try simp only [thenK]
   refine hN13 _ ?_
   clear hN13 N13
   refine pwp_then fun N15 hN15 => ?_
   refine pwp_then fun N16 hN16 => ?_
   refine pwp_reg fun R17 hR17 => ?_
   refine pops_to rfl fun M hM => ?_
   simp only [pop, St.eval, upd_at, Nat.reduceEqDiff, if_true, if_false, popFieldAddr, fieldOf, List.drop_succ_cons, List.drop_zero, List.getElem?_toArray, List.getElem?_cons_zero, List.getElem?_cons_succ, Tryd.underlying64, sz62]
   refine ⟨⟨_, rfl⟩, hM _ _ ?_⟩
   clear hM M
   refine pops_to rfl fun M hM => ?_
   simp only [pop, St.eval, upd_at, Nat.reduceEqDiff, if_true, if_false, popLoad, loadK, isAggD, Bool.false_eq_true, Tryd.underlying62, sz62, eq_self]
   refine hM _ _ ?_
   clear hM M
   refine pops_to rfl fun M hM => ?_
   simp only [pop, St.eval, upd_at, Nat.reduceEqDiff, if_true, if_false, popCall, List.map_cons, List.map_nil, popBuiltin, popLen, lenOfSlot, Tryd.underlying62, eq_self]
   refine hM _ _ ?_
   clear hM M
   refine pops_mv (.inl rfl) rfl (by simp only [St.eval, constSlot] <;> rfl) ?_
   refine pops_done (hR17 _ ?_)
   clear hR17 R17
   try simp only [thenK]
   refine hN16 _ ?_
   clear hN16 N16
   refine pwp_block ?_
   refine pwp_loop (fun k σ => ∃ (j : Nat), (k = g.ways.length - j) ∧ (j ≤ g.ways.length) ∧ (Same h σ.hp) ∧ (σ.env 10 = .sv (.one (.ro false 5 (encL l)))) ∧ (σ.env 11 = .sv (.one (pint ((encL l).length : Nat)))) ∧ (σ.env 12 = .sv (.one (pint (i : Nat)))) ∧ (σ.env 5 = .sv (.one (.rop [pint g.kind, pstr g.text, pbool g.neg, .ro false 2 (rngPV g.ranges), .ro false 1 (encW g.ways)]))) ∧ (σ.env 19 = .sv (.one (.ro false 1 (encW g.ways)))) ∧ (σ.env 20 = .sv (.one (pint ((encW g.ways).length : Nat)))) ∧ (σ.env 21 = .sv (.one (pint (j : Nat)))) ∧ (σ.env 2 = .sv (.one (pint (cntL (l.take i) + 1 + cntW (g.ways.take j) : Nat)))) ∧ (σ.env 3 = .sv (.one (pint (max (deepL (l.take i)) (dW g.kind (g.ways.take j)) : Nat))))) _ ⟨_, .refl _ _, 0, rfl, ?_⟩ ?_
   · exact ⟨Nat.zero_le _, sv12, by simp only [upd_at, Nat.reduceEqDiff, if_false, e0_10], by simp only [upd_at, Nat.reduceEqDiff, if_false, e0_11], by simp only [upd_at, Nat.reduceEqDiff, if_false, e0_12], by simp only [upd_at, Nat.reduceEqDiff, if_true, if_false], by simp only [upd_at, Nat.reduceEqDiff, if_true, if_false], by simp only [upd_at, Nat.reduceEqDiff, if_true, if_false], by simp only [upd_at, Nat.reduceEqDiff, if_true, if_false] <;> rfl, by simp only [upd_at, Nat.reduceEqDiff, if_true, if_false]; rfl, by simp only [upd_at, Nat.reduceEqDiff, if_true, if_false, e0_3, dW, List.take_zero, if_true, Nat.max_zero]⟩
   ·rintro k ⟨e, hp1⟩ ⟨j, hk1, hx1_0, sl1, e1_10, e1_11, e1_12, e1_5, e1_19, e1_20, e1_21, e1_2, e1_3⟩
    simp only at sl1 e1_10 e1_11 e1_12 e1_5 e1_19 e1_20 e1_21 e1_2 e1_3
    refine pwp_then fun N18 hN18 => ?_
    refine pwp_reg fun R19 hR19 => ?_
    refine pops_to rfl fun M hM => ?_
    simp only [pop, St.eval, popBin, binK, intK, eq_self, true_and, e1_20, e1_21]
    refine hM _ _ ?_
    clear hM M
    refine pops_done (hR19 _ ?_)
    clear hR19 R19
    try simp only [thenK]
    refine hN18 _ ?_
    clear hN18 N18
    refine pwp_then fun N20 hN20 => ?_
    refine pwp_cond (by simp only [St.eval, upd_at, if_true] <;> rfl) (fun c22 => ?_) (fun c22 => ?_)
    ·skip
     have hj : j < g.ways.length := by have := of_decide_eq_true c22; rw [encW_len] at this; omega
     obtain ⟨v, hv⟩ : ∃ v, g.ways[j]? = some v := ⟨_, List.getElem?_eq_getElem hj⟩
     have hgetw := encW_at hv
     have hlt := way_lt hg hv
     have hcv := cntL_le v
     have hcwj := cntW_tk g.ways (j + 1)
     rw [cntW_take hv] at hcwj
     have hdw := deepW_tk g.ways (j + 1)
     rw [deepW_take hv] at hdw
     have hw32 : IntKind.i64.wrap (((cntL (l.take i) + 1 + cntW (g.ways.take j) : Nat) : Int) + ((cntL v : Nat) : Int)) = ((cntL (l.take i) + 1 + cntW (g.ways.take j) + cntL v : Nat) : Int) := addN (by omega)
     have hw37 : IntKind.i64.wrap (((deepL v : Nat) : Int) + 1) = ((deepL v + 1 : Nat) : Int) := addN (b := 1) (by omega)
     have hdt2 := dW_take (k := g.kind) hv
     refine pwp_skip ?_
     try simp only [thenK]
     refine hN20 _ ?_
     clear hN20 N20
     refine pwp_then fun N21 hN21 => ?_
     refine pwp_block ?_
     refine pwp_then fun N22 hN22 => ?_
     refine pwp_reg fun R23 hR23 => ?_
     refine pops_to rfl fun M hM => ?_
     simp only [pop, St.eval, upd_at, Nat.reduceEqDiff, if_false, popIndexAddr, Tryd.underlying62, sz22, eq_self, true_and, e1_19, e1_21, hgetw, Int.toNat_natCast]
     refine ⟨Int.natCast_nonneg _, hM _ _ ?_⟩
     clear hM M
     refine pops_to rfl fun M hM => ?_
     simp only [pop, St.eval, upd_at, Nat.reduceEqDiff, if_true, if_false, popLoad, loadK, isAggD, Bool.false_eq_true, Tryd.underlying22, sz22, eq_self]
     refine hM _ _ ?_
     clear hM M
     refine pops_mv (.inr rfl) rfl (by simp only [St.eval, upd_at, Nat.reduceEqDiff, if_true, if_false] <;> rfl) ?_
     refine pops_done (hR23 _ ?_)
     clear hR23 R23
     try simp only [thenK]
     refine hN22 _ ?_
     clear hN22 N22
     refine pwp_then fun N24 hN24 => ?_
     refine pwp_reg fun R25 hR25 => ?_
     refine pops_mv (.inl rfl) rfl (by simp only [St.eval, upd_at, Nat.reduceEqDiff, if_true, if_false] <;> rfl) ?_
     refine pops_to rfl fun M hM => ?_
     simp only [pop, St.eval, constSlot, upd_at, Nat.reduceEqDiff, if_true, if_false, popCall, List.map_nil, svs, List.mapM_cons, List.mapM_nil, Option.bind_eq_bind, Option.bind_some, Option.pure_def, List.append_nil]
     refine PFun.use (ih v hlt (by omega)) fun h1 s1 => hM _ _ ?_
     replace s1 := Same.trans sl1 s1
     clear hM M
     refine pops_mv (.inl rfl) rfl (by simp only [St.eval, upd_at, Nat.reduceEqDiff, if_true, if_false] <;> rfl) ?_
     refine pops_to rfl fun M hM => ?_
     simp only [pop, St.eval, upd_at, Nat.reduceEqDiff, if_true, if_false, List.getElem?_cons_zero]
     refine hM _ _ ?_
     clear hM M
     refine pops_to rfl fun M hM => ?_
     simp only [pop, St.eval, upd_at, Nat.reduceEqDiff, if_true, if_false, List.getElem?_cons_zero, List.getElem?_cons_succ]
     refine hM _ _ ?_
     clear hM M
     refine pops_mv (.inr rfl) rfl (by simp only [St.eval, upd_at, Nat.reduceEqDiff, if_true, if_false] <;> rfl) ?_
     refine pops_mv (.inr rfl) rfl (by simp only [St.eval, upd_at, Nat.reduceEqDiff, if_true, if_false] <;> rfl) ?_
     refine pops_done (hR25 _ ?_)
     clear hR25 R25
     try simp only [thenK]
     refine hN24 _ ?_
     clear hN24 N24
     refine pwp_then fun N26 hN26 => ?_
     refine pwp_reg fun R27 hR27 => ?_
     refine pops_mv (.inl rfl) rfl (by simp only [St.eval, upd_at, Nat.reduceEqDiff, if_false, e1_2] <;> rfl) ?_
     refine pops_mv (.inl rfl) rfl (by simp only [St.eval, upd_at, Nat.reduceEqDiff, if_true, if_false] <;> rfl) ?_
     refine pops_to rfl fun M hM => ?_
     simp only [pop, St.eval, upd_at, Nat.reduceEqDiff, if_true, if_false, popBin, binK, intK, eq_self, true_and, hw32]
     refine hM _ _ ?_
     clear hM M
     refine pops_mv (.inr rfl) rfl (by simp only [St.eval, upd_at, Nat.reduceEqDiff, if_true, if_false] <;> rfl) ?_
     refine pops_done (hR27 _ ?_)
     clear hR27 R27
     try simp only [thenK]
     refine hN26 _ ?_
     clear hN26 N26
     refine pwp_then fun N28 hN28 => ?_
     refine pwp_then fun N29 hN29 => ?_
     refine pwp_reg fun R30 hR30 => ?_
     refine pops_to rfl fun M hM => ?_
     simp only [pop, St.eval, upd_at, Nat.reduceEqDiff, if_false, popFieldAddr, fieldOf, List.drop_zero, List.getElem?_toArray, List.getElem?_cons_zero, Tryd.underlying64, sz3, e1_5]
     refine ⟨⟨_, rfl⟩, hM _ _ ?_⟩
     clear hM M
     refine pops_to rfl fun M hM => ?_
     simp only [pop, St.eval, upd_at, Nat.reduceEqDiff, if_true, if_false, popLoad, loadK, isAggD, Bool.false_eq_true, Tryd.underlying3, sz3, eq_self]
     refine hM _ _ ?_
     clear hM M
     refine pops_to rfl fun M hM => ?_
     simp only [pop, St.eval, constSlot, upd_at, Nat.reduceEqDiff, if_true, if_false, popBin, binK, intK, eq_self, true_and]
     refine hM _ _ ?_
     clear hM M
     refine pops_done (hR30 _ ?_)
     clear hR30 R30
     try simp only [thenK]
     refine hN29 _ ?_
     clear hN29 N29
     refine pwp_cond (by simp only [St.eval, upd_at, Nat.reduceEqDiff, if_true, if_false] <;> rfl) (fun c35 => ?_) (fun c35 => ?_)
     ·skip
      have hk6 : g.kind = 6 := by simpa using c35
      rw [if_pos hk6] at hdt2
      refine pwp_reg fun R31 hR31 => ?_
      refine pops_mv (.inl rfl) rfl (by simp only [St.eval, upd_at, Nat.reduceEqDiff, if_true, if_false] <;> rfl) ?_
      refine pops_to rfl fun M hM => ?_
      simp only [pop, St.eval, constSlot, upd_at, Nat.reduceEqDiff, if_true, if_false, popBin, binK, intK, eq_self, true_and, hw37]
      refine hM _ _ ?_
      clear hM M
      refine pops_mv (.inr rfl) rfl (by simp only [St.eval, upd_at, Nat.reduceEqDiff, if_true, if_false] <;> rfl) ?_
      refine pops_done (hR31 _ ?_)
      clear hR31 R31
      try simp only [thenK]
      refine hN28 _ ?_
      clear hN28 N28
      refine pwp_reg fun R32 hR32 => ?_
      refine pops_mv (.inl rfl) rfl (by simp only [St.eval, upd_at, Nat.reduceEqDiff, if_false, e1_3] <;> rfl) ?_
      refine pops_mv (.inl rfl) rfl (by simp only [St.eval, upd_at, Nat.reduceEqDiff, if_true, if_false] <;> rfl) ?_
      refine pops_to rfl fun M hM => ?_
      simp only [pop, St.eval, upd_at, Nat.reduceEqDiff, if_true, if_false, popCall, List.map_cons, List.map_nil, popBuiltin, eq_self, maxZ]
      refine hM _ _ ?_
      clear hM M
      refine pops_mv (.inr rfl) rfl (by simp only [St.eval, upd_at, Nat.reduceEqDiff, if_true, if_false] <;> rfl) ?_
      refine pops_done (hR32 _ ?_)
      clear hR32 R32
      try simp only [blockK, thenK]
      try simp only [thenK, scopeK]
      refine hN21 _ ?_
      clear hN21 N21
      refine pwp_reg fun R33 hR33 => ?_
      refine pops_to rfl fun M hM => ?_
      simp only [pop, St.eval, constSlot, upd_at, Nat.reduceEqDiff, if_false, popBin, binK, intK, eq_self, true_and, e1_21]
      refine hM _ _ ?_
      clear hM M
      refine pops_mv (.inl rfl) rfl (by simp only [St.eval, upd_at, Nat.reduceEqDiff, if_true, if_false] <;> rfl) ?_
      refine pops_done (hR33 _ ?_)
      clear hR33 R33
      try simp only [thenK]
      exact ⟨_, by omega, _, .refl _ _, j + 1, rfl, by omega, s1, by simp only [upd_at, Nat.reduceEqDiff, if_false, e1_10], by simp only [upd_at, Nat.reduceEqDiff, if_false, e1_11], by simp only [upd_at, Nat.reduceEqDiff, if_false, e1_12], by simp only [upd_at, Nat.reduceEqDiff, if_false, e1_5], by simp only [upd_at, Nat.reduceEqDiff, if_false, e1_19], by simp only [upd_at, Nat.reduceEqDiff, if_false, e1_20], by simp only [upd_at, Nat.reduceEqDiff, if_true, if_false, e1_21]; rw [wrap_succ (by omega)], by simp only [upd_at, Nat.reduceEqDiff, if_true, if_false, cntW_take hv, Nat.add_assoc], by simp only [upd_at, Nat.reduceEqDiff, if_true, if_false, hdt2, Nat.max_assoc]⟩
     ·skip
      have hk6 : ¬ g.kind = 6 := by simpa using c35
      rw [if_neg hk6] at hdt2
      refine pwp_skip ?_
      try simp only [thenK]
      refine hN28 _ ?_
      clear hN28 N28
      refine pwp_reg fun R34 hR34 => ?_
      refine pops_mv (.inl rfl) rfl (by simp only [St.eval, upd_at, Nat.reduceEqDiff, if_false, e1_3] <;> rfl) ?_
      refine pops_mv (.inl rfl) rfl (by simp only [St.eval, upd_at, Nat.reduceEqDiff, if_true, if_false] <;> rfl) ?_
      refine pops_to rfl fun M hM => ?_
      simp only [pop, St.eval, upd_at, Nat.reduceEqDiff, if_true, if_false, popCall, List.map_cons, List.map_nil, popBuiltin, eq_self, maxZ]
      refine hM _ _ ?_
      clear hM M
      refine pops_mv (.inr rfl) rfl (by simp only [St.eval, upd_at, Nat.reduceEqDiff, if_true, if_false] <;> rfl) ?_
      refine pops_done (hR34 _ ?_)
      clear hR34 R34
      try simp only [blockK, thenK]
      try simp only [thenK, scopeK]
      refine hN21 _ ?_
      clear hN21 N21
      refine pwp_reg fun R35 hR35 => ?_
      refine pops_to rfl fun M hM => ?_
      simp only [pop, St.eval, constSlot, upd_at, Nat.reduceEqDiff, if_false, popBin, binK, intK, eq_self, true_and, e1_21]
      refine hM _ _ ?_
      clear hM M
      refine pops_mv (.inl rfl) rfl (by simp only [St.eval, upd_at, Nat.reduceEqDiff, if_true, if_false] <;> rfl) ?_
      refine pops_done (hR35 _ ?_)
      clear hR35 R35
      try simp only [thenK]
      exact ⟨_, by omega, _, .refl _ _, j + 1, rfl, by omega, s1, by simp only [upd_at, Nat.reduceEqDiff, if_false, e1_10], by simp only [upd_at, Nat.reduceEqDiff, if_false, e1_11], by simp only [upd_at, Nat.reduceEqDiff, if_false, e1_12], by simp only [upd_at, Nat.reduceEqDiff, if_false, e1_5], by simp only [upd_at, Nat.reduceEqDiff, if_false, e1_19], by simp only [upd_at, Nat.reduceEqDiff, if_false, e1_20], by simp only [upd_at, Nat.reduceEqDiff, if_true, if_false, e1_21]; rw [wrap_succ (by omega)], by simp only [upd_at, Nat.reduceEqDiff, if_true, if_false, cntW_take hv, Nat.add_assoc], by simp only [upd_at, Nat.reduceEqDiff, if_true, if_false, hdt2, Nat.max_assoc, Nat.add_zero]⟩
    ·skip
     have hj : ¬ j < g.ways.length := by have := of_decide_eq_false c22; rw [encW_len] at this; omega
     have htkw : g.ways.take j = g.ways := List.take_of_length_le (by omega)
     rw [htkw] at e1_2 e1_3
     have hda := dW_all g
     refine pwp_exit ?_
     try simp only [thenK, blockK, if_true, Nat.reduceEqDiff, if_false]
     clear hN20 N20
     try simp only [blockK, scopeK, if_true, Nat.reduceEqDiff, if_false, thenK]
     try simp only [thenK, scopeK]
     refine hN15 _ ?_
     clear hN15 N15
     refine pwp_then fun N36 hN36 => ?_
     refine pwp_reg fun R37 hR37 => ?_
     refine pops_to rfl fun M hM => ?_
     simp only [pop, St.eval, upd_at, Nat.reduceEqDiff, if_false, popFieldAddr, fieldOf, List.drop_zero, List.getElem?_toArray, List.getElem?_cons_zero, Tryd.underlying64, sz3, e1_5]
     refine ⟨⟨_, rfl⟩, hM _ _ ?_⟩
     clear hM M
     refine pops_to rfl fun M hM => ?_
     simp only [pop, St.eval, upd_at, Nat.reduceEqDiff, if_true, if_false, popLoad, loadK, isAggD, Bool.false_eq_true, Tryd.underlying3, sz3, eq_self]
     refine hM _ _ ?_
     clear hM M
     refine pops_to rfl fun M hM => ?_
     simp only [pop, St.eval, constSlot, upd_at, Nat.reduceEqDiff, if_true, if_false, popBin, binK, intK, eq_self, true_and]
     refine hM _ _ ?_
     clear hM M
     refine pops_done (hR37 _ ?_)
     clear hR37 R37
     try simp only [thenK]
     refine hN36 _ ?_
     clear hN36 N36
     refine pwp_cond (by simp only [St.eval, upd_at, Nat.reduceEqDiff, if_true, if_false] <;> rfl) (fun c44 => ?_) (fun c44 => ?_)
     ·skip
      have hk6 : g.kind = 6 := by simpa using c44
      rw [if_pos hk6] at hda
      refine pwp_reg fun R38 hR38 => ?_
      refine pops_mv (.inl rfl) rfl (by simp only [St.eval, upd_at, Nat.reduceEqDiff, if_false, e1_3] <;> rfl) ?_
      refine pops_to rfl fun M hM => ?_
      simp only [pop, St.eval, constSlot, upd_at, Nat.reduceEqDiff, if_true, if_false, popCall, List.map_cons, List.map_nil, popBuiltin, eq_self, max1Z]
      refine hM _ _ ?_
      clear hM M
      refine pops_mv (.inr rfl) rfl (by simp only [St.eval, upd_at, Nat.reduceEqDiff, if_true, if_false] <;> rfl) ?_
      refine pops_done (hR38 _ ?_)
      clear hR38 R38
      try simp only [blockK, thenK]
      try simp only [thenK, scopeK]
      refine hN9 _ ?_
      clear hN9 N9
      refine pwp_reg fun R39 hR39 => ?_
      refine pops_to rfl fun M hM => ?_
      simp only [pop, St.eval, constSlot, upd_at, Nat.reduceEqDiff, if_false, popBin, binK, intK, eq_self, true_and, e1_12]
      refine hM _ _ ?_
      clear hM M
      refine pops_mv (.inl rfl) rfl (by simp only [St.eval, upd_at, Nat.reduceEqDiff, if_true, if_false] <;> rfl) ?_
      refine pops_done (hR39 _ ?_)
      clear hR39 R39
      try simp only [thenK]
      exact ⟨_, by omega, _, .refl _ _, i + 1, rfl, by omega, sl1, by simp only [upd_at, Nat.reduceEqDiff, if_false, e1_10], by simp only [upd_at, Nat.reduceEqDiff, if_false, e1_11], by simp only [upd_at, Nat.reduceEqDiff, if_true, if_false, e1_12]; rw [wrap_succ (by omega)], by simp only [upd_at, Nat.reduceEqDiff, if_false, e1_2, cntL_take hg, Nat.add_assoc], by simp only [upd_at, Nat.reduceEqDiff, if_true, if_false, e1_3, deepL_take hg, hda, Nat.max_assoc]⟩
     ·skip
      have hk6 : ¬ g.kind = 6 := by simpa using c44
      rw [if_neg hk6] at hda
      refine pwp_skip ?_
      try simp only [blockK, thenK]
      try simp only [thenK, scopeK]
      refine hN9 _ ?_
      clear hN9 N9
      refine pwp_reg fun R40 hR40 => ?_
      refine pops_to rfl fun M hM => ?_
      simp only [pop, St.eval, constSlot, upd_at, Nat.reduceEqDiff, if_false, popBin, binK, intK, eq_self, true_and, e1_12]
      refine hM _ _ ?_
      clear hM M
      refine pops_mv (.inl rfl) rfl (by simp only [St.eval, upd_at, Nat.reduceEqDiff, if_true, if_false] <;> rfl) ?_
      refine pops_done (hR40 _ ?_)
      clear hR40 R40
      try simp only [thenK]
      exact ⟨_, by omega, _, .refl _ _, i + 1, rfl, by omega, sl1, by simp only [upd_at, Nat.reduceEqDiff, if_false, e1_10], by simp only [upd_at, Nat.reduceEqDiff, if_false, e1_11], by simp only [upd_at, Nat.reduceEqDiff, if_true, if_false, e1_12]; rw [wrap_succ (by omega)], by simp only [upd_at, Nat.reduceEqDiff, if_false, e1_2, cntL_take hg, Nat.add_assoc], by simp only [upd_at, Nat.reduceEqDiff, if_false, e1_3, deepL_take hg, hda]⟩
  ·skip
   have hi : ¬ i < l.length := by have := of_decide_eq_false c13; rw [encL_len] at this; omega
   have htk : l.take i = l := List.take_of_length_le (by omega)
   rw [htk] at e0_2 e0_3
   refine pwp_exit ?_
   try simp only [thenK, blockK, if_true]
   clear hN8 N8
   try simp only [blockK, scopeK, if_true, Nat.reduceEqDiff, if_false, thenK]
   try simp only [thenK, scopeK]
   refine hN3 _ ?_
   clear hN3 N3
   refine pwp_then fun N41 hN41 => ?_
   refine pwp_reg fun R42 hR42 => ?_
   refine pops_mv (.inl rfl) rfl (by simp only [St.eval, upd_at, Nat.reduceEqDiff, if_false, e0_2] <;> rfl) ?_
   refine pops_mv (.inl rfl) rfl (by simp only [St.eval, upd_at, Nat.reduceEqDiff, if_false, e0_3] <;> rfl) ?_
   refine pops_mv (.inr rfl) rfl (by simp only [St.eval, upd_at, Nat.reduceEqDiff, if_true, if_false] <;> rfl) ?_
   refine pops_mv (.inr rfl) rfl (by simp only [St.eval, upd_at, Nat.reduceEqDiff, if_true, if_false] <;> rfl) ?_
   refine pops_done (hR42 _ ?_)
   clear hR42 R42
   try simp only [thenK]
   refine hN41 _ ?_
   clear hN41 N41
   refine pwp_ret ?_
   simp only [bodyK]
   refine ⟨_, rfl, endFun sl0 ?_⟩
   try simp only []
   all_goals
    rfl
theorem nm39 : (Tryd.f39.name == "runtime.NumGoroutine") = false := by kernel_rfl
set_option maxHeartbeats 2000000 in
theorem partCount_fun1 (W0 : World) (l : List GPart) (hl : lW l ≤ 1048576) (ih : ∀ l' : List GPart, lW l' < lW l → lW l' ≤ 1048576 → PFun Tryd.prog W0 39 [.one (.ro false 5 (encL l'))] (.tup [.one (pint (cntL l' : Nat)), .one (pint (deepL l' : Nat))])) :
  PFun Tryd.prog W0 39 [.one (.ro false 5 (encL l))] (.tup [.one (pint (cntL l : Nat)), .one (pint (deepL l : Nat))]) := by
 intro h
 have hcl := cntL_le l
 have hln := lW_len l
 refine pcalls1 (n := 49) Tryd.func39 rfl nm39 rfl fun hb => ?_
 refine pwp_then fun N1 hN1 => ?_
 refine pwp_reg fun R2 hR2 => ?_
 refine pops_mv (.inr rfl) rfl (by simp only [St.eval, constSlot] <;> rfl) ?_
 refine pops_mv (.inr rfl) rfl (by simp only [St.eval, constSlot] <;> rfl) ?_
 refine pops_done (hR2 _ ?_)
 clear hR2 R2
 try simp only [thenK]
 refine hN1 _ ?_
 clear hN1 N1
 refine pwp_then fun N3 hN3 => ?_
 refine pwp_then fun N4 hN4 => ?_
 refine pwp_reg fun R5 hR5 => ?_
 refine pops_mv (.inl rfl) rfl (by simp only [St.eval, upd_at, Nat.reduceEqDiff, if_true, if_false] <;> rfl) ?_
 refine pops_to rfl fun M hM => ?_
 simp only [pop, St.eval, upd_at, Nat.reduceEqDiff, if_true, if_false, popCall, List.map_cons, List.map_nil, popBuiltin, popLen, lenOfSlot, Tryd.underlying22, eq_self]
 refine hM _ _ ?_
 clear hM M
 refine pops_mv (.inl rfl) rfl (by simp only [St.eval, constSlot] <;> rfl) ?_
 refine pops_done (hR5 _ ?_)
 clear hR5 R5
 try simp only [thenK]
 refine hN4 _ ?_
 clear hN4 N4
 refine pwp_block ?_
 refine pwp_loop (fun k σ => ∃ (i : Nat), (k = l.length - i) ∧ (i ≤ l.length) ∧ (Same h σ.hp) ∧ (σ.env 11 = .sv (.one (.ro false 5 (encL l)))) ∧ (σ.env 12 = .sv (.one (pint ((encL l).length : Nat)))) ∧ (σ.env 13 = .sv (.one (pint (i : Nat)))) ∧ (σ.env 2 = .sv (.one (pint (cntL (l.take i) : Nat)))) ∧ (σ.env 3 = .sv (.one (pint (deepL (l.take i) : Nat))))) _ ⟨_, .refl _ _, 0, rfl, ?_⟩ ?_
 · exact ⟨Nat.zero_le _, (Same.refl _), by simp only [upd_at, Nat.reduceEqDiff, if_true, if_false], by simp only [upd_at, Nat.reduceEqDiff, if_true, if_false], by simp only [upd_at, Nat.reduceEqDiff, if_true, if_false] <;> rfl, by simp only [upd_at, Nat.reduceEqDiff, if_true, if_false] <;> rfl, by simp only [upd_at, Nat.reduceEqDiff, if_true, if_false] <;> rfl⟩
 ·rintro k ⟨e, hp0⟩ ⟨i, hk0, hx0_0, sl0, e0_11, e0_12, e0_13, e0_2, e0_3⟩
  simp only at sl0 e0_11 e0_12 e0_13 e0_2 e0_3
  refine pwp_then fun N6 hN6 => ?_
  refine pwp_reg fun R7 hR7 => ?_
  refine pops_to rfl fun M hM => ?_
  simp only [pop, St.eval, popBin, binK, intK, eq_self, true_and, e0_12, e0_13]
  refine hM _ _ ?_
  clear hM M
  refine pops_done (hR7 _ ?_)
  clear hR7 R7
  try simp only [thenK]
  refine hN6 _ ?_
  clear hN6 N6
  refine pwp_then fun N8 hN8 => ?_
  refine pwp_cond (by simp only [St.eval, upd_at, if_true] <;> rfl) (fun c14 => ?_) (fun c14 => ?_)
  ·skip
   have hi : i < l.length := by have := of_decide_eq_true c14; rw [encL_len] at this; omega
   obtain ⟨g, hg⟩ : ∃ g, l[i]? = some g := ⟨_, List.getElem?_eq_getElem hi⟩
   have hget := encL_at hg
   rw [encG_eq] at hget
   have hgw := lW_at hg
   have hge := gW_eq g
   have hct := cnt_at hg
   have hdt := deepL_tk l i
   have hwn := wW_len g.ways
   have hcw := cntW_le g.ways
   have hw17 : IntKind.i64.wrap (((cntL (l.take i) : Nat) : Int) + 1) = ((cntL (l.take i) + 1 : Nat) : Int) := addN (b := 1) (by omega)
   refine pwp_skip ?_
   try simp only [thenK]
   refine hN8 _ ?_
   clear hN8 N8
   refine pwp_then fun N9 hN9 => ?_
   refine pwp_block ?_
   refine pwp_then fun N10 hN10 => ?_
   refine pwp_reg fun R11 hR11 => ?_
   refine pops_to rfl fun M hM => ?_
   simp only [pop, St.eval, upd_at, Nat.reduceEqDiff, if_false, popIndexAddr, Tryd.underlying22, sz64, eq_self, true_and, e0_11, e0_13, hget, Int.toNat_natCast]
   refine ⟨Int.natCast_nonneg _, hM _ _ ?_⟩
   clear hM M
   refine pops_to rfl fun M hM => ?_
   simp only [pop, St.eval, upd_at, Nat.reduceEqDiff, if_true, if_false, List.length_cons, List.length_nil, Nat.zero_add, Nat.reduceAdd, Nat.reduceLeDiff, List.take_succ_cons, List.take_nil, popLoad, loadK, isAggD, Tryd.underlying64, sz64, eq_self, true_and]
   refine hM _ _ ?_
   clear hM M
   refine pops_var (hpOk.same hb sl0) rfl ze64 (zs := [PV.val (.int .i64 0), PV.val (.string ⟨#[]⟩), PV.val (.bool false), PV.val (.slice none 0 0), PV.val (.slice none 0 0)]) (by kernel_rfl) (by simp) (by simp only [St.eval, slotCells, upd_at, Nat.reduceEqDiff, if_true, if_false] <;> rfl) (by rfl) (by exact Nat.succ_pos _) (by rw [sz64]; rfl) (fun hv12 sv12 => ?_)
   replace sv12 := Same.trans sl0 sv12
   refine pops_done (hR11 _ ?_)
   clear hR11 R11
   try simp only [thenK]
   refine hN10 _ ?_
   clear hN10 N10
   refine pwp_then fun N13 hN13 => ?_
   refine pwp_reg fun R14 hR14 => ?_
   refine pops_mv (.inl rfl) rfl (by simp only [St.eval, upd_at, Nat.reduceEqDiff, if_false, e0_2] <;> rfl) ?_
   refine pops_to rfl fun M hM => ?_
   simp only [pop, St.eval, constSlot, upd_at, Nat.reduceEqDiff, if_true, if_false, popBin, binK, intK, eq_self, true_and, hw17]
   refine hM _ _ ?_
   clear hM M
   refine pops_mv (.inr rfl) rfl (by simp only [St.eval, upd_at, Nat.reduceEqDiff, if_true, if_false] <;> rfl) ?_
   refine pops_done (hR14 _ ?_)
   clear hR14 R14
   try simp only [thenK]
   refine hN13 _ ?_
   clear hN13 N13
   refine pwp_then fun N15 hN15 => ?_
   refine pwp_reg fun R16 hR16 => ?_
   refine pops_mv (.inr rfl) rfl (by simp only [St.eval, constSlot] <;> rfl) ?_
   refine pops_done (hR16 _ ?_)
   clear hR16 R16
   try simp only [thenK]
   refine hN15 _ ?_
   clear hN15 N15
   refine pwp_then fun N17 hN17 => ?_
   refine pwp_then fun N18 hN18 => ?_
   refine pwp_reg fun R19 hR19 => ?_
   refine pops_to rfl fun M hM => ?_
   simp only [pop, St.eval, upd_at, Nat.reduceEqDiff, if_true, if_false, popFieldAddr, fieldOf, List.drop_succ_cons, List.drop_zero, List.getElem?_toArray, List.getElem?_cons_zero, List.getElem?_cons_succ, Tryd.underlying64, sz62]
   refine ⟨⟨_, rfl⟩, hM _ _ ?_⟩
   clear hM M
   refine pops_to rfl fun M hM => ?_
   simp only [pop, St.eval, upd_at, Nat.reduceEqDiff, if_true, if_false, popLoad, loadK, isAggD, Bool.false_eq_true, Tryd.underlying62, sz62, eq_self]
   refine hM _ _ ?_
   clear hM M
   refine pops_to rfl fun M hM => ?_
   simp only [pop, St.eval, upd_at, Nat.reduceEqDiff, if_true, if_false, popCall, List.map_cons, List.map_nil, popBuiltin, popLen, lenOfSlot, Tryd.underlying62, eq_self]
   refine hM _ _ ?_
   clear hM M
   refine pops_mv (.inl rfl) rfl (by simp only [St.eval, constSlot] <;> rfl) ?_
   refine pops_done (hR19 _ ?_)
   clear hR19 R19
   try simp only [thenK]
   refine hN18 _ ?_
   clear hN18 N18
   refine pwp_block ?_
   refine pwp_loop (fun k σ => ∃ (j : Nat), (k = g.ways.length - j) ∧ (j ≤ g.ways.length) ∧ (Same h σ.hp) ∧ (σ.env 11 = .sv (.one (.ro false 5 (encL l)))) ∧ (σ.env 12 = .sv (.one (pint ((encL l).length : Nat)))) ∧ (σ.env 13 = .sv (.one (pint (i : Nat)))) ∧ (σ.env 5 = .sv (.one (.rop [pint g.kind, pstr g.text, pbool g.neg, .ro false 2 (rngPV g.ranges), .ro false 1 (encW g.ways)]))) ∧ (σ.env 20 = .sv (.one (.ro false 1 (encW g.ways)))) ∧ (σ.env 21 = .sv (.one (pint ((encW g.ways).length : Nat)))) ∧ (σ.env 22 = .sv (.one (pint (j : Nat)))) ∧ (σ.env 2 = .sv (.one (pint (cntL (l.take i) + 1 + cntW (g.ways.take j) : Nat)))) ∧ (σ.env 3 = .sv (.one (pint (deepL (l.take i) : Nat)))) ∧ (σ.env 6 = .sv (.one (pint (deepW (g.ways.take j) : Nat))))) _ ⟨_, .refl _ _, 0, rfl, ?_⟩ ?_
   · exact ⟨Nat.zero_le _, sv12, by simp only [upd_at, Nat.reduceEqDiff, if_false, e0_11], by simp only [upd_at, Nat.reduceEqDiff, if_false, e0_12], by simp only [upd_at, Nat.reduceEqDiff, if_false, e0_13], by simp only [upd_at, Nat.reduceEqDiff, if_true, if_false], by simp only [upd_at, Nat.reduceEqDiff, if_true, if_false], by simp only [upd_at, Nat.reduceEqDiff, if_true, if_false], by simp only [upd_at, Nat.reduceEqDiff, if_true, if_false] <;> rfl, by simp only [upd_at, Nat.reduceEqDiff, if_true, if_false]; rfl, by simp only [upd_at, Nat.reduceEqDiff, if_false, e0_3], by simp only [upd_at, Nat.reduceEqDiff, if_true, if_false] <;> rfl⟩
   ·rintro k ⟨e, hp1⟩ ⟨j, hk1, hx1_0, sl1, e1_11, e1_12, e1_13, e1_5, e1_20, e1_21, e1_22, e1_2, e1_3, e1_6⟩
    simp only at sl1 e1_11 e1_12 e1_13 e1_5 e1_20 e1_21 e1_22 e1_2 e1_3 e1_6
    refine pwp_then fun N20 hN20 => ?_
    refine pwp_reg fun R21 hR21 => ?_
    refine pops_to rfl fun M hM => ?_
    simp only [pop, St.eval, popBin, binK, intK, eq_self, true_and, e1_21, e1_22]
    refine hM _ _ ?_
    clear hM M
    refine pops_done (hR21 _ ?_)
    clear hR21 R21
    try simp only [thenK]
    refine hN20 _ ?_
    clear hN20 N20
    refine pwp_then fun N22 hN22 => ?_
    refine pwp_cond (by simp only [St.eval, upd_at, if_true] <;> rfl) (fun c23 => ?_) (fun c23 => ?_)
    ·skip
     have hj : j < g.ways.length := by have := of_decide_eq_true c23; rw [encW_len] at this; omega
     obtain ⟨v, hv⟩ : ∃ v, g.ways[j]? = some v := ⟨_, List.getElem?_eq_getElem hj⟩
     have hgetw := encW_at hv
     have hlt := way_lt hg hv
     have hcv := cntL_le v
     have hcwj := cntW_tk g.ways (j + 1)
     rw [cntW_take hv] at hcwj
     have hdw := deepW_tk g.ways (j + 1)
     rw [deepW_take hv] at hdw
     have hw32 : IntKind.i64.wrap (((cntL (l.take i) + 1 + cntW (g.ways.take j) : Nat) : Int) + ((cntL v : Nat) : Int)) = ((cntL (l.take i) + 1 + cntW (g.ways.take j) + cntL v : Nat) : Int) := addN (by omega)
     refine pwp_skip ?_
     try simp only [thenK]
     refine hN22 _ ?_
     clear hN22 N22
     refine pwp_then fun N23 hN23 => ?_
     refine pwp_block ?_
     refine pwp_then fun N24 hN24 => ?_
     refine pwp_reg fun R25 hR25 => ?_
     refine pops_to rfl fun M hM => ?_
     simp only [pop, St.eval, upd_at, Nat.reduceEqDiff, if_false, popIndexAddr, Tryd.underlying62, sz22, eq_self, true_and, e1_20, e1_22, hgetw, Int.toNat_natCast]
     refine ⟨Int.natCast_nonneg _, hM _ _ ?_⟩
     clear hM M
     refine pops_to rfl fun M hM => ?_
     simp only [pop, St.eval, upd_at, Nat.reduceEqDiff, if_true, if_false, popLoad, loadK, isAggD, Bool.false_eq_true, Tryd.underlying22, sz22, eq_self]
     refine hM _ _ ?_
     clear hM M
     refine pops_mv (.inr rfl) rfl (by simp only [St.eval, upd_at, Nat.reduceEqDiff, if_true, if_false] <;> rfl) ?_
     refine pops_done (hR25 _ ?_)
     clear hR25 R25
     try simp only [thenK]
     refine hN24 _ ?_
     clear hN24 N24
     refine pwp_then fun N26 hN26 => ?_
     refine pwp_reg fun R27 hR27 => ?_
     refine pops_mv (.inl rfl) rfl (by simp only [St.eval, upd_at, Nat.reduceEqDiff, if_true, if_false] <;> rfl) ?_
     refine pops_to rfl fun M hM => ?_
     simp only [pop, St.eval, constSlot, upd_at, Nat.reduceEqDiff, if_true, if_false, popCall, List.map_nil, svs, List.mapM_cons, List.mapM_nil, Option.bind_eq_bind, Option.bind_some, Option.pure_def, List.append_nil]
     refine PFun.use (ih v hlt (by omega)) fun h1 s1 => hM _ _ ?_
     replace s1 := Same.trans sl1 s1
     clear hM M
     refine pops_mv (.inl rfl) rfl (by simp only [St.eval, upd_at, Nat.reduceEqDiff, if_true, if_false] <;> rfl) ?_
     refine pops_to rfl fun M hM => ?_
     simp only [pop, St.eval, upd_at, Nat.reduceEqDiff, if_true, if_false, List.getElem?_cons_zero]
     refine hM _ _ ?_
     clear hM M
     refine pops_to rfl fun M hM => ?_
     simp only [pop, St.eval, upd_at, Nat.reduceEqDiff, if_true, if_false, List.getElem?_cons_zero, List.getElem?_cons_succ]
     refine hM _ _ ?_
     clear hM M
     refine pops_mv (.inr rfl) rfl (by simp only [St.eval, upd_at, Nat.reduceEqDiff, if_true, if_false] <;> rfl) ?_
     refine pops_mv (.inr rfl) rfl (by simp only [St.eval, upd_at, Nat.reduceEqDiff, if_true, if_false] <;> rfl) ?_
     refine pops_done (hR27 _ ?_)
     clear hR27 R27
     try simp only [thenK]
     refine hN26 _ ?_
     clear hN26 N26
     refine pwp_reg fun R28 hR28 => ?_
     refine pops_mv (.inl rfl) rfl (by simp only [St.eval, upd_at, Nat.reduceEqDiff, if_false, e1_2] <;> rfl) ?_
     refine pops_mv (.inl rfl) rfl (by simp only [St.eval, upd_at, Nat.reduceEqDiff, if_true, if_false] <;> rfl) ?_
     refine pops_to rfl fun M hM => ?_
     simp only [pop, St.eval, upd_at, Nat.reduceEqDiff, if_true, if_false, popBin, binK, intK, eq_self, true_and, hw32]
     refine hM _ _ ?_
     clear hM M
     refine pops_mv (.inl rfl) rfl (by simp only [St.eval, upd_at, Nat.reduceEqDiff, if_false, e1_6] <;> rfl) ?_
     refine pops_mv (.inl rfl) rfl (by simp only [St.eval, upd_at, Nat.reduceEqDiff, if_true, if_false] <;> rfl) ?_
     refine pops_to rfl fun M hM => ?_
     simp only [pop, St.eval, upd_at, Nat.reduceEqDiff, if_true, if_false, popCall, List.map_cons, List.map_nil, popBuiltin, eq_self, maxZ]
     refine hM _ _ ?_
     clear hM M
     refine pops_mv (.inr rfl) rfl (by simp only [St.eval, upd_at, Nat.reduceEqDiff, if_true, if_false] <;> rfl) ?_
     refine pops_mv (.inr rfl) rfl (by simp only [St.eval, upd_at, Nat.reduceEqDiff, if_true, if_false] <;> rfl) ?_
     refine pops_done (hR28 _ ?_)
     clear hR28 R28
     try simp only [blockK, thenK]
     try simp only [thenK, scopeK]
     refine hN23 _ ?_
     clear hN23 N23
     refine pwp_reg fun R29 hR29 => ?_
     refine pops_to rfl fun M hM => ?_
     simp only [pop, St.eval, constSlot, upd_at, Nat.reduceEqDiff, if_false, popBin, binK, intK, eq_self, true_and, e1_22]
     refine hM _ _ ?_
     clear hM M
     refine pops_mv (.inl rfl) rfl (by simp only [St.eval, upd_at, Nat.reduceEqDiff, if_true, if_false] <;> rfl) ?_
     refine pops_done (hR29 _ ?_)
     clear hR29 R29
     try simp only [thenK]
     exact ⟨_, by omega, _, .refl _ _, j + 1, rfl, by omega, s1, by simp only [upd_at, Nat.reduceEqDiff, if_false, e1_11], by simp only [upd_at, Nat.reduceEqDiff, if_false, e1_12], by simp only [upd_at, Nat.reduceEqDiff, if_false, e1_13], by simp only [upd_at, Nat.reduceEqDiff, if_false, e1_5], by simp only [upd_at, Nat.reduceEqDiff, if_false, e1_20], by simp only [upd_at, Nat.reduceEqDiff, if_false, e1_21], by simp only [upd_at, Nat.reduceEqDiff, if_true, if_false, e1_22]; rw [wrap_succ (by omega)], by simp only [upd_at, Nat.reduceEqDiff, if_true, if_false, cntW_take hv, Nat.add_assoc], by simp only [upd_at, Nat.reduceEqDiff, if_false, e1_3], by simp only [upd_at, Nat.reduceEqDiff, if_true, if_false, deepW_take hv]⟩
    ·skip
     have hj : ¬ j < g.ways.length := by have := of_decide_eq_false c23; rw [encW_len] at this; omega
     have htkw : g.ways.take j = g.ways := List.take_of_length_le (by omega)
     rw [htkw] at e1_2 e1_6
     have hda := deepG_eq g
     have hw42 : IntKind.i64.wrap (((deepW g.ways : Nat) : Int) + 1) = ((deepW g.ways + 1 : Nat) : Int) := addN (b := 1) (by omega)
     refine pwp_exit ?_
     try simp only [thenK, blockK, if_true, Nat.reduceEqDiff, if_false]
     clear hN22 N22
     try simp only [blockK, scopeK, if_true, Nat.reduceEqDiff, if_false, thenK]
     try simp only [thenK, scopeK]
     refine hN17 _ ?_
     clear hN17 N17
     refine pwp_then fun N30 hN30 => ?_
     refine pwp_then fun N31 hN31 => ?_
     refine pwp_reg fun R32 hR32 => ?_
     refine pops_to rfl fun M hM => ?_
     simp only [pop, St.eval, upd_at, Nat.reduceEqDiff, if_false, popFieldAddr, fieldOf, List.drop_zero, List.getElem?_toArray, List.getElem?_cons_zero, Tryd.underlying64, sz3, e1_5]
     refine ⟨⟨_, rfl⟩, hM _ _ ?_⟩
     clear hM M
     refine pops_to rfl fun M hM => ?_
     simp only [pop, St.eval, upd_at, Nat.reduceEqDiff, if_true, if_false, popLoad, loadK, isAggD, Bool.false_eq_true, Tryd.underlying3, sz3, eq_self]
     refine hM _ _ ?_
     clear hM M
     refine pops_to rfl fun M hM => ?_
     simp only [pop, St.eval, constSlot, upd_at, Nat.reduceEqDiff, if_true, if_false, popBin, binK, intK, eq_self, true_and]
     refine hM _ _ ?_
     clear hM M
     refine pops_done (hR32 _ ?_)
     clear hR32 R32
     try simp only [thenK]
     refine hN31 _ ?_
     clear hN31 N31
     refine pwp_cond (by simp only [St.eval, upd_at, Nat.reduceEqDiff, if_true, if_false] <;> rfl) (fun c40 => ?_) (fun c40 => ?_)
     ·skip
      have hk6 : g.kind = 6 := by simpa using c40
      rw [if_pos hk6] at hda
      refine pwp_reg fun R33 hR33 => ?_
      refine pops_mv (.inl rfl) rfl (by simp only [St.eval, upd_at, Nat.reduceEqDiff, if_false, e1_6] <;> rfl) ?_
      refine pops_to rfl fun M hM => ?_
      simp only [pop, St.eval, constSlot, upd_at, Nat.reduceEqDiff, if_true, if_false, popBin, binK, intK, eq_self, true_and, hw42]
      refine hM _ _ ?_
      clear hM M
      refine pops_mv (.inr rfl) rfl (by simp only [St.eval, upd_at, Nat.reduceEqDiff, if_true, if_false] <;> rfl) ?_
      refine pops_done (hR33 _ ?_)
      clear hR33 R33
      try simp only [thenK]
      refine hN30 _ ?_
      clear hN30 N30
      refine pwp_reg fun R34 hR34 => ?_
      refine pops_mv (.inl rfl) rfl (by simp only [St.eval, upd_at, Nat.reduceEqDiff, if_false, e1_3] <;> rfl) ?_
      refine pops_mv (.inl rfl) rfl (by simp only [St.eval, upd_at, Nat.reduceEqDiff, if_true, if_false, e1_6] <;> rfl) ?_
      refine pops_to rfl fun M hM => ?_
      simp only [pop, St.eval, upd_at, Nat.reduceEqDiff, if_true, if_false, popCall, List.map_cons, List.map_nil, popBuiltin, eq_self, maxZ]
      refine hM _ _ ?_
      clear hM M
      refine pops_mv (.inr rfl) rfl (by simp only [St.eval, upd_at, Nat.reduceEqDiff, if_true, if_false] <;> rfl) ?_
      refine pops_done (hR34 _ ?_)
      clear hR34 R34
      try simp only [blockK, thenK]
      try simp only [thenK, scopeK]
      refine hN9 _ ?_
      clear hN9 N9
      refine pwp_reg fun R35 hR35 => ?_
      refine pops_to rfl fun M hM => ?_
      simp only [pop, St.eval, constSlot, upd_at, Nat.reduceEqDiff, if_false, popBin, binK, intK, eq_self, true_and, e1_13]
      refine hM _ _ ?_
      clear hM M
      refine pops_mv (.inl rfl) rfl (by simp only [St.eval, upd_at, Nat.reduceEqDiff, if_true, if_false] <;> rfl) ?_
      refine pops_done (hR35 _ ?_)
      clear hR35 R35
      try simp only [thenK]
      exact ⟨_, by omega, _, .refl _ _, i + 1, rfl, by omega, sl1, by simp only [upd_at, Nat.reduceEqDiff, if_false, e1_11], by simp only [upd_at, Nat.reduceEqDiff, if_false, e1_12], by simp only [upd_at, Nat.reduceEqDiff, if_true, if_false, e1_13]; rw [wrap_succ (by omega)], by simp only [upd_at, Nat.reduceEqDiff, if_false, e1_2, cntL_take hg, Nat.add_assoc], by simp only [upd_at, Nat.reduceEqDiff, if_true, if_false, e1_3, deepL_take hg, hda]⟩
     ·skip
      have hk6 : ¬ g.kind = 6 := by simpa using c40
      rw [if_neg hk6, Nat.add_zero] at hda
      refine pwp_skip ?_
      try simp only [thenK]
      refine hN30 _ ?_
      clear hN30 N30
      refine pwp_reg fun R36 hR36 => ?_
      refine pops_mv (.inl rfl) rfl (by simp only [St.eval, upd_at, Nat.reduceEqDiff, if_false, e1_3] <;> rfl) ?_
      refine pops_mv (.inl rfl) rfl (by simp only [St.eval, upd_at, Nat.reduceEqDiff, if_false, e1_6] <;> rfl) ?_
      refine pops_to rfl fun M hM => ?_
      simp only [pop, St.eval, upd_at, Nat.reduceEqDiff, if_true, if_false, popCall, List.map_cons, List.map_nil, popBuiltin, eq_self, maxZ]
      refine hM _ _ ?_
      clear hM M
      refine pops_mv (.inr rfl) rfl (by simp only [St.eval, upd_at, Nat.reduceEqDiff, if_true, if_false] <;> rfl) ?_
      refine pops_done (hR36 _ ?_)
      clear hR36 R36
      try simp only [blockK, thenK]
      try simp only [thenK, scopeK]
      refine hN9 _ ?_
      clear hN9 N9
      refine pwp_reg fun R37 hR37 => ?_
      refine pops_to rfl fun M hM => ?_
      simp only [pop, St.eval, constSlot, upd_at, Nat.reduceEqDiff, if_false, popBin, binK, intK, eq_self, true_and, e1_13]
      refine hM _ _ ?_
      clear hM M
      refine pops_mv (.inl rfl) rfl (by simp only [St.eval, upd_at, Nat.reduceEqDiff, if_true, if_false] <;> rfl) ?_
      refine pops_done (hR37 _ ?_)
      clear hR37 R37
      try simp only [thenK]
      exact ⟨_, by omega, _, .refl _ _, i + 1, rfl, by omega, sl1, by simp only [upd_at, Nat.reduceEqDiff, if_false, e1_11], by simp only [upd_at, Nat.reduceEqDiff, if_false, e1_12], by simp only [upd_at, Nat.reduceEqDiff, if_true, if_false, e1_13]; rw [wrap_succ (by omega)], by simp only [upd_at, Nat.reduceEqDiff, if_false, e1_2, cntL_take hg, Nat.add_assoc], by simp only [upd_at, Nat.reduceEqDiff, if_true, if_false, e1_3, deepL_take hg, hda]⟩
  ·skip
   have hi : ¬ i < l.length := by have := of_decide_eq_false c14; rw [encL_len] at this; omega
   have htk : l.take i = l := List.take_of_length_le (by omega)
   rw [htk] at e0_2 e0_3
   refine pwp_exit ?_
   try simp only [thenK, blockK, if_true]
   clear hN8 N8
   try simp only [blockK, scopeK, if_true, Nat.reduceEqDiff, if_false, thenK]
   try simp only [thenK, scopeK]
   refine hN3 _ ?_
   clear hN3 N3
   refine pwp_then fun N38 hN38 => ?_
   refine pwp_reg fun R39 hR39 => ?_
   refine pops_mv (.inl rfl) rfl (by simp only [St.eval, upd_at, Nat.reduceEqDiff, if_false, e0_2] <;> rfl) ?_
   refine pops_mv (.inl rfl) rfl (by simp only [St.eval, upd_at, Nat.reduceEqDiff, if_false, e0_3] <;> rfl) ?_
   refine pops_mv (.inr rfl) rfl (by simp only [St.eval, upd_at, Nat.reduceEqDiff, if_true, if_false] <;> rfl) ?_
   refine pops_mv (.inr rfl) rfl (by simp only [St.eval, upd_at, Nat.reduceEqDiff, if_true, if_false] <;> rfl) ?_
   refine pops_done (hR39 _ ?_)
   clear hR39 R39
   try simp only [thenK]
   refine hN38 _ ?_
   clear hN38 N38
   refine pwp_ret ?_
   simp only [bodyK]
   refine ⟨_, rfl, endFun sl0 ?_⟩
   try simp only []
   all_goals
    rfl
end Go.Pw
