/- Own work: part of the proof of the row YtlghclplgbijjaaDoorRowFilterChecksUpto; no condition of its own. -/
import Derived.Test.YtlghclplgbijjaaDoorGlobD
import Derived.Test.YtlghclplgbijjaaDoorGlobE
import Derived.Test.YtlghclplgbijjaaDoorGFacts
namespace Go.Pw
open Go Go.RowKit Go.Proofs
set_option maxRecDepth 100000
set_option linter.unusedSimpArgs false
set_option linter.unusedVariables false
theorem shW_app : ∀ (b : Bool) (a c : List (List GPart)), shW b (a ++ c) = shW b a ++ shW (b && decide (a = [])) c
  | b, [], c => by rw [List.nil_append, shW]; simp
  | b, l :: a, c => by
    rw [List.cons_append, shW, shW_app false a c, shW]
    simp
theorem shW_take {w : List (List GPart)} {j : Nat} {v : List GPart} (h : w[j]? = some v) : shW true (w.take (j + 1)) = shW true (w.take j) ++ [if j = 0 then 123 else 44] ++ shL true v := by
  have hl := (List.getElem?_eq_some_iff.1 h).1
  rw [take_at h, shW_app]
  have e : (true && decide (w.take j = [])) = decide (j = 0) := by
    rw [Bool.true_and]
    refine decide_eq_decide.2 ⟨fun e => ?_, fun e => by subst e; rfl⟩
    have := congrArg List.length e
    rw [List.length_take, List.length_nil] at this
    omega
  rw [e, shW, shW, List.append_nil]
  by_cases h0 : j = 0
  · simp [h0]
  · simp [h0]
theorem brace_at (j : Nat) : ([123, 44] : List UInt8)[(if (1 : Int) < (j : Int) then (1 : Int) else (j : Int)).toNat]? = some (if j = 0 then 123 else 44) ∧ 0 ≤ (if (1 : Int) < (j : Int) then (1 : Int) else (j : Int)) := by
  rcases Nat.lt_or_ge 1 j with h | h
  · rw [if_pos (by omega), if_neg (by omega)]; exact ⟨rfl, by decide⟩
  · rw [if_neg (by omega)]
    match j, h with
    | 0, _ => exact ⟨rfl, by decide⟩
    | 1, _ => exact ⟨rfl, by decide⟩
theorem chkG_parts {g : GPart} (h : chkG g = 0) : (∀ x ∈ g.ranges, rngBad x = false) ∧ chkW g.ways = 0 := by
  rw [chkG_eq] at h
  split at h
  · rename_i hr
    exact absurd h hr
  · rename_i hr
    refine ⟨?_, h⟩
    have hr : rngE none g.ranges = 0 := by omega
    have key : ∀ (r : List (Int × Int)) (p : Option Int), rngE p r = 0 → ∀ x ∈ r, rngBad x = false := by
      intro r
      induction r with
      | nil => intro p _ x hx; cases hx
      | cons y r ih =>
        intro p h x hx
        simp only [rngE] at h
        by_cases hb : rngBad y = true
        · rw [if_pos hb] at h; exact absurd h (by decide)
        · rw [if_neg hb] at h
          have h2 : rngE (some y.2) r = 0 := by
            cases p with
            | none => simpa using h
            | some b =>
              simp only at h
              by_cases hq : decide (y.1 ≤ b + 1) = true
              · rw [if_pos hq] at h; exact absurd h (by decide)
              · rw [if_neg hq] at h; exact h
          rcases List.mem_cons.1 hx with rfl | hx
          · simpa using hb
          · exact ih _ h2 x hx
    exact key _ _ hr
theorem chkW_ok : ∀ {w : List (List GPart)}, chkW w = 0 → ∀ v ∈ w, chkL false v = 0
  | [], _, _, hv => by cases hv
  | l :: w, h, v, hv => by
    rw [chkW] at h
    split at h
    · rename_i h0; exact absurd h h0
    · rename_i h0
      rcases List.mem_cons.1 hv with rfl | hv
      · omega
      · exact chkW_ok h v hv
theorem shL_take {w : Bool} {l : List GPart} {i : Nat} {g : GPart} (h : l[i]? = some g) : shL w (l.take (i + 1)) = shL w (l.take i) ++ shG w g := by rw [take_at h, shL_app, shL_one]
theorem lW_app : ∀ a b : List GPart, lW (a ++ b) = lW a + lW b
  | [], b => by rw [List.nil_append, lW_nil, Nat.zero_add]
  | g :: a, b => by rw [List.cons_append, lW_cons, lW_app a b, lW_cons]; omega
theorem lW_take {l : List GPart} {i : Nat} {g : GPart} (h : l[i]? = some g) : lW (l.take i) + gW g ≤ lW l := by
  have e := lW_app (l.take (i + 1)) (l.drop (i + 1))
  rw [List.take_append_drop, take_at h, lW_app, lW_cons, lW_nil] at e
  omega
theorem wW_app : ∀ a b : List (List GPart), wW (a ++ b) = wW a + wW b
  | [], b => by
    rw [List.nil_append]
    have : wW [] = 0 := rfl
    omega
  | g :: a, b => by rw [List.cons_append, wW_cons, wW_app a b, wW_cons]; omega
theorem wW_take {w : List (List GPart)} {j : Nat} {v : List GPart} (h : w[j]? = some v) : wW (w.take j) + lW v + 1 ≤ wW w := by
  have e := wW_app (w.take (j + 1)) (w.drop (j + 1))
  rw [List.take_append_drop, take_at h, wW_app, wW_cons] at e
  have : wW [] = 0 := rfl
  omega
theorem nm116 : (Tryd.f116.name == "runtime.NumGoroutine") = false := by kernel_rfl
theorem bound_bld (W0 : World) (h0 : Hp) (id : Nat) (l : List UInt8) (n : Int) (hb0 : hpOk h0) (hlim : l.length + 2 ≤ 1099511627776) (h : Hp) (B : Bld 94 5 h0 h id l) :
  PCalls Tryd.prog W0 116 [.one (pint n), .one (.rop [.ptr id 0 0 0])] h (fun r h' => r = .tup [] ∧ Bld 94 5 h0 h' id (l ++ bnd n)) := by
 refine pcalls2 (n := 9) Tryd.func116 rfl nm116 rfl fun hb => ?_
 refine pwp_reg fun R1 hR1 => ?_
 refine pops_to rfl fun M hM => ?_
 simp only [pop, St.eval, upd_at, Nat.reduceEqDiff, if_true, if_false, popLoad, loadK, isAggD, Bool.false_eq_true, Tryd.underlying91, sz91, eq_self]
 refine hM _ _ ?_
 clear hM M
 refine pops_mv (.inl rfl) rfl (by simp only [St.eval, upd_at, Nat.reduceEqDiff, if_true, if_false] <;> rfl) ?_
 refine pops_to rfl fun M hM => ?_
 simp only [pop, St.eval, upd_at, Nat.reduceEqDiff, if_true, if_false, popConvert, Tryd.underlying3, Tryd.underlying5, eq_self, u8_mod]
 refine hM _ _ ?_
 clear hM M
 refine pops_to rfl fun M hM => ?_
 simp only [pop, St.eval, constSlot, upd_at, Nat.reduceEqDiff, if_true, if_false, popBuildSlice, slotCells, List.map_cons, List.map_nil, List.mapM_cons, List.mapM_nil, Option.bind_eq_bind, Option.bind_some, Option.pure_def, Tryd.underlying92, sz5, ze5, eq_self]
 refine ⟨by decide, by decide, rfl, rfl, by simp, by decide, rfl, hM _ _ ?_⟩
 clear hM M
 refine pops_to rfl fun M hM => ?_
 simp only [pop, St.eval, upd_at, Nat.reduceEqDiff, if_true, if_false, eq_self]
 refine str_ofB (l := [UInt8.ofNat (n % 256).toNat]) Tryd.underlying9 Tryd.underlying92 Tryd.underlying5 (hM _ _ ?_)
 clear hM M
 refine pops_to rfl fun M hM => ?_
 simp only [pop, St.eval, constSlot, upd_at, Nat.reduceEqDiff, if_true, if_false, popCall, List.map_nil, svs, List.mapM_cons, List.mapM_nil, Option.bind_eq_bind, Option.bind_some, Option.pure_def, List.append_nil]
 refine (escape_bld W0 h0 id l [UInt8.ofNat (n % 256).toNat] [92, 93, 94, 45] hb0 (by simp only [List.length_cons, List.length_nil]; omega) _ (B.keeps (Same.keeps (Same.refl _)))).mono ?_
 rintro _ h9 ⟨rfl, hB9⟩
 refine hM _ _ ?_
 clear hM M
 refine pops_done (hR1 _ ?_)
 clear hR1 R1
 simp only [bodyK]
 exact ⟨_, rfl, _, _, .refl _ _ _, rfl, hB9⟩
theorem nm94 : (Tryd.f94.name == "runtime.NumGoroutine") = false := by kernel_rfl
set_option maxHeartbeats 2000000 in
theorem printSet_bld (W0 : World) (h0 : Hp) (id : Nat) (l : List UInt8) (g : GPart) (hr : ∀ x ∈ g.ranges, rngBad x = false) (hb0 : hpOk h0) (hrn : g.ranges.length ≤ 1048576) (hlim : l.length + 10 + 5 * g.ranges.length ≤ 1099511627776) (h : Hp) (B : Bld 94 5 h0 h id l) :
  PCalls Tryd.prog W0 94 [.one (.ptr id 0 0 0), .agg [pint g.kind, pstr g.text, pbool g.neg, .ro false 2 (rngPV g.ranges), .ro false 1 (encW g.ways)]] h (fun r h' => r = .tup [] ∧ Bld 94 5 h0 h' id (l ++ showS g.neg g.ranges)) := by
 refine pcalls2 (n := 45) Tryd.func94 rfl nm94 rfl fun hb => ?_
 refine pwp_then fun N1 hN1 => ?_
 refine pwp_reg fun R2 hR2 => ?_
 refine pops_to rfl fun M hM => ?_
 simp only [pop, St.eval, upd_at, Nat.reduceEqDiff, if_true, if_false, popBox, popBoxRo, slotCells]
 refine .inr ⟨Nat.succ_pos _, hM _ _ ?_⟩
 clear hM M
 refine pops_to rfl fun M hM => ?_
 simp only [pop, St.eval, upd_at, Nat.reduceEqDiff, if_true, if_false, popBox, popBoxRo, slotCells]
 refine .inr ⟨Nat.succ_pos _, hM _ _ ?_⟩
 clear hM M
 refine pops_done (hR2 _ ?_)
 clear hR2 R2
 try simp only [thenK]
 refine hN1 _ ?_
 clear hN1 N1
 refine pwp_then fun N3 hN3 => ?_
 refine pwp_reg fun R4 hR4 => ?_
 refine pops_to rfl fun M hM => ?_
 simp only [pop, St.eval, constSlot, upd_at, Nat.reduceEqDiff, if_true, if_false, onesOf, List.mapM_cons, List.mapM_nil, Option.bind_eq_bind, Option.bind_some, Option.pure_def, eq_self, true_and]
 refine hM _ _ ?_
 clear hM M
 refine pops_mv (.inr rfl) rfl (by simp only [St.eval, upd_at, Nat.reduceEqDiff, if_true, if_false] <;> rfl) ?_
 refine pops_done (hR4 _ ?_)
 clear hR4 R4
 try simp only [thenK]
 refine hN3 _ ?_
 clear hN3 N3
 refine pwp_then fun N5 hN5 => ?_
 refine pwp_reg fun R6 hR6 => ?_
 refine pops_to rfl fun M hM => ?_
 simp only [pop, St.eval, upd_at, Nat.reduceEqDiff, if_true, if_false, popLoad, loadK, isAggD, Bool.false_eq_true, Tryd.underlying91, sz91, eq_self]
 refine hM _ _ ?_
 clear hM M
 refine pops_to rfl fun M hM => ?_
 simp only [pop, St.eval, constSlot, upd_at, Nat.reduceEqDiff, if_true, if_false, popCall, List.map_nil, svs, List.mapM_cons, List.mapM_nil, Option.bind_eq_bind, Option.bind_some, Option.pure_def, List.append_nil]
 first
   | refine (writeByte_bld W0 h0 id _ 91 hb0 (by first | omega | (simp only [List.length_append, List.length_cons, List.length_nil]; omega)) _ (B.keeps (Same.keeps (Same.refl _)))).mono ?_
 rintro _ h1 ⟨rfl, hB1⟩
 refine hM _ _ ?_
 clear hM M
 refine pops_done (hR6 _ ?_)
 clear hR6 R6
 try simp only [thenK]
 refine hN5 _ ?_
 clear hN5 N5
 refine pwp_then fun N7 hN7 => ?_
 refine pwp_then fun N8 hN8 => ?_
 refine pwp_reg fun R9 hR9 => ?_
 refine pops_to rfl fun M hM => ?_
 simp only [pop, St.eval, upd_at, Nat.reduceEqDiff, if_true, if_false, popFieldAddr, fieldOf, List.drop_succ_cons, List.drop_zero, List.getElem?_toArray, List.getElem?_cons_zero, List.getElem?_cons_succ, Tryd.underlying64, sz4]
 refine ⟨⟨_, rfl⟩, hM _ _ ?_⟩
 clear hM M
 refine pops_to rfl fun M hM => ?_
 simp only [pop, St.eval, upd_at, Nat.reduceEqDiff, if_true, if_false, popLoad, loadK, isAggD, Bool.false_eq_true, Tryd.underlying4, sz4, eq_self]
 refine hM _ _ ?_
 clear hM M
 refine pops_done (hR9 _ ?_)
 clear hR9 R9
 try simp only [thenK]
 refine hN8 _ ?_
 clear hN8 N8
 refine pwp_cond (by simp only [St.eval, upd_at, Nat.reduceEqDiff, if_true, if_false] <;> rfl) (fun c11 => ?_) (fun c11 => ?_)
 ·skip
  have hng : g.neg = true := c11
  refine pwp_reg fun R10 hR10 => ?_
  refine pops_to rfl fun M hM => ?_
  simp only [pop, St.eval, upd_at, Nat.reduceEqDiff, if_true, if_false, popLoad, loadK, isAggD, Bool.false_eq_true, Tryd.underlying91, sz91, eq_self]
  refine hM _ _ ?_
  clear hM M
  refine pops_to rfl fun M hM => ?_
  simp only [pop, St.eval, constSlot, upd_at, Nat.reduceEqDiff, if_true, if_false, popCall, List.map_nil, svs, List.mapM_cons, List.mapM_nil, Option.bind_eq_bind, Option.bind_some, Option.pure_def, List.append_nil]
  first
    | refine (writeByte_bld W0 h0 id _ 94 hb0 (by first | omega | (simp only [List.length_append, List.length_cons, List.length_nil]; omega)) _ (hB1.keeps (Same.keeps (Same.refl _)))).mono ?_
  rintro _ h2 ⟨rfl, hB2⟩
  refine hM _ _ ?_
  clear hM M
  refine pops_done (hR10 _ ?_)
  clear hR10 R10
  try simp only [thenK]
  refine hN7 _ ?_
  clear hN7 N7
  refine pwp_then fun N11 hN11 => ?_
  refine pwp_then fun N12 hN12 => ?_
  refine pwp_reg fun R13 hR13 => ?_
  refine pops_to rfl fun M hM => ?_
  simp only [pop, St.eval, upd_at, Nat.reduceEqDiff, if_true, if_false, popFieldAddr, fieldOf, List.drop_succ_cons, List.drop_zero, List.getElem?_toArray, List.getElem?_cons_zero, List.getElem?_cons_succ, Tryd.underlying64, sz61]
  refine ⟨⟨_, rfl⟩, hM _ _ ?_⟩
  clear hM M
  refine pops_to rfl fun M hM => ?_
  simp only [pop, St.eval, upd_at, Nat.reduceEqDiff, if_true, if_false, popLoad, loadK, isAggD, Bool.false_eq_true, Tryd.underlying61, sz61, eq_self]
  refine hM _ _ ?_
  clear hM M
  refine pops_to rfl fun M hM => ?_
  simp only [pop, St.eval, upd_at, Nat.reduceEqDiff, if_true, if_false, popCall, List.map_cons, List.map_nil, popBuiltin, popLen, lenOfSlot, List.length_map, Tryd.underlying61, eq_self, List.length_map]
  refine hM _ _ ?_
  clear hM M
  refine pops_mv (.inl rfl) rfl (by simp only [St.eval, constSlot] <;> rfl) ?_
  refine pops_done (hR13 _ ?_)
  clear hR13 R13
  try simp only [thenK]
  refine hN12 _ ?_
  clear hN12 N12
  refine pwp_block ?_
  refine pwp_loop (fun k σ => ∃ (i : Nat), (k = g.ranges.length - i) ∧ (i ≤ g.ranges.length) ∧ (Bld 94 5 h0 σ.hp id (l ++ setT g.neg (g.ranges.take i))) ∧ (σ.env 2 = .sv (.one (.rop [.ptr id 0 0 0]))) ∧ (σ.env 3 = .sv (.one (.rop [pint g.kind, pstr g.text, pbool g.neg, .ro false 2 (rngPV g.ranges), .ro false 1 (encW g.ways)]))) ∧ (σ.env 4 = .sv (.one (.clo (.func 116) [.rop [.ptr id 0 0 0]]))) ∧ (σ.env 15 = .sv (.one (.ro false 2 (rngPV g.ranges)))) ∧ (σ.env 16 = .sv (.one (pint (g.ranges.length : Nat)))) ∧ (σ.env 17 = .sv (.one (pint (i : Nat))))) _ ⟨_, .refl _ _, 0, rfl, ?_⟩ ?_
  · exact ⟨Nat.zero_le _, by first | (have e9 := hB2.keeps (Same.keeps (Same.refl _)); simpa [setT, hng] using e9) | (have e9 := hB1.keeps (Same.keeps (Same.refl _)); simpa [setT, hng] using e9), by simp only [upd_at, Nat.reduceEqDiff, if_true, if_false], by simp only [upd_at, Nat.reduceEqDiff, if_true, if_false], by simp only [upd_at, Nat.reduceEqDiff, if_true, if_false], by simp only [upd_at, Nat.reduceEqDiff, if_true, if_false], by first | rfl | (simp only [upd_at, Nat.reduceEqDiff, if_true, if_false]; rfl), by first | rfl | (simp only [upd_at, Nat.reduceEqDiff, if_true, if_false]; rfl)⟩
  ·rintro k ⟨e, hp0⟩ ⟨i, hk0, hx0_0, sl0, e0_2, e0_3, e0_4, e0_15, e0_16, e0_17⟩
   simp only at sl0 e0_2 e0_3 e0_4 e0_15 e0_16 e0_17
   have hB := sl0
   refine pwp_hpok fun hok0 => ?_
   simp only at hok0
   refine pwp_then fun N14 hN14 => ?_
   refine pwp_reg fun R15 hR15 => ?_
   refine pops_to rfl fun M hM => ?_
   simp only [pop, St.eval, popBin, binK, intK, eq_self, true_and, e0_16, e0_17]
   refine hM _ _ ?_
   clear hM M
   refine pops_done (hR15 _ ?_)
   clear hR15 R15
   try simp only [thenK]
   refine hN14 _ ?_
   clear hN14 N14
   refine pwp_then fun N16 hN16 => ?_
   refine pwp_cond (by simp only [St.eval, upd_at, if_true] <;> rfl) (fun c18 => ?_) (fun c18 => ?_)
   ·skip
    have hi : i < g.ranges.length := by have := of_decide_eq_true c18; omega
    obtain ⟨x, hx⟩ : ∃ x, g.ranges[i]? = some x := ⟨_, List.getElem?_eq_getElem hi⟩
    have hget := rng_at hx
    have hgood := hr x (List.mem_of_getElem? hx)
    simp only [rngBad, Bool.or_eq_false_iff, decide_eq_false_iff_not] at hgood
    have hw29 : IntKind.i64.wrap (x.1 + 1) = x.1 + 1 := wrap_i64 (by omega) (by omega)
    have hsl := setT_len g.neg (g.ranges.take i)
    rw [List.length_take] at hsl
    have hb1 := bnd_len x.1
    have hst := setT_step (neg := g.neg) hx
    refine pwp_skip ?_
    try simp only [thenK]
    refine hN16 _ ?_
    clear hN16 N16
    refine pwp_then fun N17 hN17 => ?_
    refine pwp_block ?_
    refine pwp_then fun N18 hN18 => ?_
    refine pwp_reg fun R19 hR19 => ?_
    refine pops_to rfl fun M hM => ?_
    simp only [pop, St.eval, upd_at, Nat.reduceEqDiff, if_false, popIndexAddr, Tryd.underlying61, sz67, eq_self, true_and, e0_15, e0_17, hget, Int.toNat_natCast]
    refine ⟨Int.natCast_nonneg _, hM _ _ ?_⟩
    clear hM M
    refine pops_to rfl fun M hM => ?_
    simp only [pop, St.eval, upd_at, Nat.reduceEqDiff, if_true, if_false, List.length_cons, List.length_nil, Nat.zero_add, Nat.reduceAdd, Nat.reduceLeDiff, List.take_succ_cons, List.take_nil, popLoad, loadK, isAggD, Tryd.underlying67, sz67, eq_self, true_and]
    refine hM _ _ ?_
    clear hM M
    refine pops_var (hpOk.same hok0 (Same.refl _)) rfl ze67 (zs := [PV.val (.int .i64 0), PV.val (.int .i64 0)]) (by kernel_rfl) (by simp) (by simp only [St.eval, slotCells, upd_at, Nat.reduceEqDiff, if_true, if_false] <;> rfl) (by rfl) (by exact Nat.succ_pos _) (by rw [sz67]; rfl) (fun hv20 sv20 => ?_)
    refine pops_done (hR19 _ ?_)
    clear hR19 R19
    try simp only [thenK]
    refine hN18 _ ?_
    clear hN18 N18
    refine pwp_then fun N21 hN21 => ?_
    refine pwp_reg fun R22 hR22 => ?_
    refine pops_mv (.inl rfl) rfl (by simp only [St.eval, upd_at, Nat.reduceEqDiff, if_false, e0_4] <;> rfl) ?_
    refine pops_to rfl fun M hM => ?_
    simp only [pop, St.eval, constSlot, upd_at, Nat.reduceEqDiff, if_true, if_false, popIndexAddr, Tryd.underlying67, sz3, eq_self]
    refine ⟨by decide, by decide, hM _ _ ?_⟩
    clear hM M
    refine pops_to rfl fun M hM => ?_
    simp only [pop, St.eval, upd_at, Nat.reduceEqDiff, if_true, if_false, popLoad, loadK, isAggD, Bool.false_eq_true, Tryd.underlying3, sz3, eq_self]
    refine hM _ _ ?_
    clear hM M
    refine pops_to rfl fun M hM => ?_
    simp only [pop, St.eval, constSlot, upd_at, Nat.reduceEqDiff, if_true, if_false, popCall, List.map_cons, List.map_nil, svs, List.mapM_cons, List.mapM_nil, Option.bind_eq_bind, Option.bind_some, Option.pure_def, List.cons_append, List.nil_append]
    first
      | refine (bound_bld W0 h0 id _ x.1 hb0 (by first | omega | (simp only [List.length_append]; omega)) _ (hB.keeps (Same.keeps sv20))).mono ?_
    rintro _ h3 ⟨rfl, hB3⟩
    refine hM _ _ ?_
    clear hM M
    refine pops_done (hR22 _ ?_)
    clear hR22 R22
    try simp only [thenK]
    refine hN21 _ ?_
    clear hN21 N21
    refine pwp_then fun N23 hN23 => ?_
    refine pwp_then fun N24 hN24 => ?_
    refine pwp_reg fun R25 hR25 => ?_
    refine pops_to rfl fun M hM => ?_
    simp only [pop, St.eval, constSlot, upd_at, Nat.reduceEqDiff, if_true, if_false, popIndexAddr, Tryd.underlying67, sz3, eq_self]
    refine ⟨by decide, by decide, hM _ _ ?_⟩
    clear hM M
    refine pops_to rfl fun M hM => ?_
    simp only [pop, St.eval, upd_at, Nat.reduceEqDiff, if_true, if_false, popLoad, loadK, isAggD, Bool.false_eq_true, Tryd.underlying3, sz3, eq_self]
    refine hM _ _ ?_
    clear hM M
    refine pops_to rfl fun M hM => ?_
    simp only [pop, St.eval, constSlot, upd_at, Nat.reduceEqDiff, if_true, if_false, popIndexAddr, Tryd.underlying67, sz3, eq_self]
    refine ⟨by decide, by decide, hM _ _ ?_⟩
    clear hM M
    refine pops_to rfl fun M hM => ?_
    simp only [pop, St.eval, upd_at, Nat.reduceEqDiff, if_true, if_false, popLoad, loadK, isAggD, Bool.false_eq_true, Tryd.underlying3, sz3, eq_self]
    refine hM _ _ ?_
    clear hM M
    refine pops_to rfl fun M hM => ?_
    simp only [pop, St.eval, constSlot, upd_at, Nat.reduceEqDiff, if_true, if_false, popBin, binK, intK, eq_self, true_and, hw29]
    refine hM _ _ ?_
    clear hM M
    refine pops_to rfl fun M hM => ?_
    simp only [pop, St.eval, upd_at, Nat.reduceEqDiff, if_true, if_false, popBin, binK, intK, eq_self, true_and]
    refine hM _ _ ?_
    clear hM M
    refine pops_done (hR25 _ ?_)
    clear hR25 R25
    try simp only [thenK]
    refine hN24 _ ?_
    clear hN24 N24
    refine pwp_cond (by simp only [St.eval, upd_at, Nat.reduceEqDiff, if_true, if_false] <;> rfl) (fun c30 => ?_) (fun c30 => ?_)
    ·skip
     have hg1 := of_decide_eq_true c30
     refine pwp_reg fun R26 hR26 => ?_
     refine pops_to rfl fun M hM => ?_
     simp only [pop, St.eval, upd_at, Nat.reduceEqDiff, if_false, popLoad, loadK, isAggD, Bool.false_eq_true, Tryd.underlying91, sz91, e0_2]
     refine hM _ _ ?_
     clear hM M
     refine pops_to rfl fun M hM => ?_
     simp only [pop, St.eval, constSlot, upd_at, Nat.reduceEqDiff, if_true, if_false, popCall, List.map_nil, svs, List.mapM_cons, List.mapM_nil, Option.bind_eq_bind, Option.bind_some, Option.pure_def, List.append_nil]
     first
       | refine (writeByte_bld W0 h0 id _ 45 hb0 (by first | omega | (simp only [List.length_append]; omega)) _ (hB3.keeps (Same.keeps (Same.refl _)))).mono ?_
     rintro _ h4 ⟨rfl, hB4⟩
     refine hM _ _ ?_
     clear hM M
     refine pops_done (hR26 _ ?_)
     clear hR26 R26
     try simp only [thenK]
     refine hN23 _ ?_
     clear hN23 N23
     refine pwp_then fun N27 hN27 => ?_
     refine pwp_reg fun R28 hR28 => ?_
     refine pops_to rfl fun M hM => ?_
     simp only [pop, St.eval, constSlot, upd_at, Nat.reduceEqDiff, if_true, if_false, popIndexAddr, Tryd.underlying67, sz3, eq_self]
     refine ⟨by decide, by decide, hM _ _ ?_⟩
     clear hM M
     refine pops_to rfl fun M hM => ?_
     simp only [pop, St.eval, upd_at, Nat.reduceEqDiff, if_true, if_false, popLoad, loadK, isAggD, Bool.false_eq_true, Tryd.underlying3, sz3, eq_self]
     refine hM _ _ ?_
     clear hM M
     refine pops_to rfl fun M hM => ?_
     simp only [pop, St.eval, constSlot, upd_at, Nat.reduceEqDiff, if_true, if_false, popIndexAddr, Tryd.underlying67, sz3, eq_self]
     refine ⟨by decide, by decide, hM _ _ ?_⟩
     clear hM M
     refine pops_to rfl fun M hM => ?_
     simp only [pop, St.eval, upd_at, Nat.reduceEqDiff, if_true, if_false, popLoad, loadK, isAggD, Bool.false_eq_true, Tryd.underlying3, sz3, eq_self]
     refine hM _ _ ?_
     clear hM M
     refine pops_to rfl fun M hM => ?_
     simp only [pop, St.eval, upd_at, Nat.reduceEqDiff, if_true, if_false, popBin, binK, intK, eq_self, true_and]
     refine hM _ _ ?_
     clear hM M
     refine pops_done (hR28 _ ?_)
     clear hR28 R28
     try simp only [thenK]
     refine hN27 _ ?_
     clear hN27 N27
     refine pwp_cond (by simp only [St.eval, upd_at, Nat.reduceEqDiff, if_true, if_false] <;> rfl) (fun c37 => ?_) (fun c37 => ?_)
     ·skip
      have hg2 := of_decide_eq_true c37
      refine pwp_reg fun R29 hR29 => ?_
      refine pops_mv (.inl rfl) rfl (by simp only [St.eval, upd_at, Nat.reduceEqDiff, if_false, e0_4] <;> rfl) ?_
      refine pops_to rfl fun M hM => ?_
      simp only [pop, St.eval, constSlot, upd_at, Nat.reduceEqDiff, if_true, if_false, popIndexAddr, Tryd.underlying67, sz3, eq_self]
      refine ⟨by decide, by decide, hM _ _ ?_⟩
      clear hM M
      refine pops_to rfl fun M hM => ?_
      simp only [pop, St.eval, upd_at, Nat.reduceEqDiff, if_true, if_false, popLoad, loadK, isAggD, Bool.false_eq_true, Tryd.underlying3, sz3, eq_self]
      refine hM _ _ ?_
      clear hM M
      refine pops_to rfl fun M hM => ?_
      simp only [pop, St.eval, constSlot, upd_at, Nat.reduceEqDiff, if_true, if_false, popCall, List.map_cons, List.map_nil, svs, List.mapM_cons, List.mapM_nil, Option.bind_eq_bind, Option.bind_some, Option.pure_def, List.cons_append, List.nil_append]
      first
        | refine (bound_bld W0 h0 id _ x.2 hb0 (by first | omega | (simp only [List.length_append, List.length_cons, List.length_nil]; omega)) _ (hB4.keeps (Same.keeps (Same.refl _)))).mono ?_
        | refine (bound_bld W0 h0 id _ x.2 hb0 (by first | omega | (simp only [List.length_append, List.length_cons, List.length_nil]; omega)) _ (hB3.keeps (Same.keeps (Same.refl _)))).mono ?_
      rintro _ h5 ⟨rfl, hB5⟩
      refine hM _ _ ?_
      clear hM M
      refine pops_done (hR29 _ ?_)
      clear hR29 R29
      try simp only [blockK, thenK]
      try simp only [thenK, scopeK]
      refine hN17 _ ?_
      clear hN17 N17
      refine pwp_reg fun R30 hR30 => ?_
      refine pops_to rfl fun M hM => ?_
      simp only [pop, St.eval, constSlot, upd_at, Nat.reduceEqDiff, if_false, popBin, binK, intK, eq_self, true_and, e0_17]
      refine hM _ _ ?_
      clear hM M
      refine pops_mv (.inl rfl) rfl (by simp only [St.eval, upd_at, Nat.reduceEqDiff, if_true, if_false] <;> rfl) ?_
      refine pops_done (hR30 _ ?_)
      clear hR30 R30
      try simp only [thenK]
      exact ⟨_, by omega, _, .refl _ _, i + 1, rfl, by omega, by first | (have e9 := hB5.keeps (Same.keeps (Same.refl _)); rw [hst, showR_1 hg1]; simpa using e9) | (have e9 := hB5.keeps (Same.keeps (Same.refl _)); rw [hst, showR_2 hg1 hg2]; simpa using e9) | (have e9 := hB3.keeps (Same.keeps (Same.refl _)); rw [hst, showR_3 hg1 hg2]; simpa using e9) | (exfalso; omega), by simp only [upd_at, Nat.reduceEqDiff, if_false, e0_2], by simp only [upd_at, Nat.reduceEqDiff, if_false, e0_3], by simp only [upd_at, Nat.reduceEqDiff, if_false, e0_4], by simp only [upd_at, Nat.reduceEqDiff, if_false, e0_15], by simp only [upd_at, Nat.reduceEqDiff, if_false, e0_16], by simp only [upd_at, Nat.reduceEqDiff, if_true, if_false, e0_17]; rw [wrap_succ (by omega)]⟩
     ·skip
      have hg2 := of_decide_eq_false c37
      refine pwp_skip ?_
      try simp only [blockK, thenK]
      try simp only [thenK, scopeK]
      refine hN17 _ ?_
      clear hN17 N17
      refine pwp_reg fun R31 hR31 => ?_
      refine pops_to rfl fun M hM => ?_
      simp only [pop, St.eval, constSlot, upd_at, Nat.reduceEqDiff, if_false, popBin, binK, intK, eq_self, true_and, e0_17]
      refine hM _ _ ?_
      clear hM M
      refine pops_mv (.inl rfl) rfl (by simp only [St.eval, upd_at, Nat.reduceEqDiff, if_true, if_false] <;> rfl) ?_
      refine pops_done (hR31 _ ?_)
      clear hR31 R31
      try simp only [thenK]
      exact ⟨_, by omega, _, .refl _ _, i + 1, rfl, by omega, by first | (have e9 := hB5.keeps (Same.keeps (Same.refl _)); rw [hst, showR_1 hg1]; simpa using e9) | (have e9 := hB5.keeps (Same.keeps (Same.refl _)); rw [hst, showR_2 hg1 hg2]; simpa using e9) | (have e9 := hB3.keeps (Same.keeps (Same.refl _)); rw [hst, showR_3 hg1 hg2]; simpa using e9) | (exfalso; omega), by simp only [upd_at, Nat.reduceEqDiff, if_false, e0_2], by simp only [upd_at, Nat.reduceEqDiff, if_false, e0_3], by simp only [upd_at, Nat.reduceEqDiff, if_false, e0_4], by simp only [upd_at, Nat.reduceEqDiff, if_false, e0_15], by simp only [upd_at, Nat.reduceEqDiff, if_false, e0_16], by simp only [upd_at, Nat.reduceEqDiff, if_true, if_false, e0_17]; rw [wrap_succ (by omega)]⟩
    ·skip
     have hg1 := of_decide_eq_false c30
     refine pwp_skip ?_
     try simp only [thenK]
     refine hN23 _ ?_
     clear hN23 N23
     refine pwp_then fun N32 hN32 => ?_
     refine pwp_reg fun R33 hR33 => ?_
     refine pops_to rfl fun M hM => ?_
     simp only [pop, St.eval, constSlot, upd_at, Nat.reduceEqDiff, if_true, if_false, popIndexAddr, Tryd.underlying67, sz3, eq_self]
     refine ⟨by decide, by decide, hM _ _ ?_⟩
     clear hM M
     refine pops_to rfl fun M hM => ?_
     simp only [pop, St.eval, upd_at, Nat.reduceEqDiff, if_true, if_false, popLoad, loadK, isAggD, Bool.false_eq_true, Tryd.underlying3, sz3, eq_self]
     refine hM _ _ ?_
     clear hM M
     refine pops_to rfl fun M hM => ?_
     simp only [pop, St.eval, constSlot, upd_at, Nat.reduceEqDiff, if_true, if_false, popIndexAddr, Tryd.underlying67, sz3, eq_self]
     refine ⟨by decide, by decide, hM _ _ ?_⟩
     clear hM M
     refine pops_to rfl fun M hM => ?_
     simp only [pop, St.eval, upd_at, Nat.reduceEqDiff, if_true, if_false, popLoad, loadK, isAggD, Bool.false_eq_true, Tryd.underlying3, sz3, eq_self]
     refine hM _ _ ?_
     clear hM M
     refine pops_to rfl fun M hM => ?_
     simp only [pop, St.eval, upd_at, Nat.reduceEqDiff, if_true, if_false, popBin, binK, intK, eq_self, true_and]
     refine hM _ _ ?_
     clear hM M
     refine pops_done (hR33 _ ?_)
     clear hR33 R33
     try simp only [thenK]
     refine hN32 _ ?_
     clear hN32 N32
     refine pwp_cond (by simp only [St.eval, upd_at, Nat.reduceEqDiff, if_true, if_false] <;> rfl) (fun c37 => ?_) (fun c37 => ?_)
     ·skip
      have hg2 := of_decide_eq_true c37
      refine pwp_reg fun R34 hR34 => ?_
      refine pops_mv (.inl rfl) rfl (by simp only [St.eval, upd_at, Nat.reduceEqDiff, if_false, e0_4] <;> rfl) ?_
      refine pops_to rfl fun M hM => ?_
      simp only [pop, St.eval, constSlot, upd_at, Nat.reduceEqDiff, if_true, if_false, popIndexAddr, Tryd.underlying67, sz3, eq_self]
      refine ⟨by decide, by decide, hM _ _ ?_⟩
      clear hM M
      refine pops_to rfl fun M hM => ?_
      simp only [pop, St.eval, upd_at, Nat.reduceEqDiff, if_true, if_false, popLoad, loadK, isAggD, Bool.false_eq_true, Tryd.underlying3, sz3, eq_self]
      refine hM _ _ ?_
      clear hM M
      refine pops_to rfl fun M hM => ?_
      simp only [pop, St.eval, constSlot, upd_at, Nat.reduceEqDiff, if_true, if_false, popCall, List.map_cons, List.map_nil, svs, List.mapM_cons, List.mapM_nil, Option.bind_eq_bind, Option.bind_some, Option.pure_def, List.cons_append, List.nil_append]
      first
        | refine (bound_bld W0 h0 id _ x.2 hb0 (by first | omega | (simp only [List.length_append, List.length_cons, List.length_nil]; omega)) _ (hB4.keeps (Same.keeps (Same.refl _)))).mono ?_
        | refine (bound_bld W0 h0 id _ x.2 hb0 (by first | omega | (simp only [List.length_append]; omega)) _ (hB3.keeps (Same.keeps (Same.refl _)))).mono ?_
      rintro _ h5 ⟨rfl, hB5⟩
      refine hM _ _ ?_
      clear hM M
      refine pops_done (hR34 _ ?_)
      clear hR34 R34
      try simp only [blockK, thenK]
      try simp only [thenK, scopeK]
      refine hN17 _ ?_
      clear hN17 N17
      refine pwp_reg fun R35 hR35 => ?_
      refine pops_to rfl fun M hM => ?_
      simp only [pop, St.eval, constSlot, upd_at, Nat.reduceEqDiff, if_false, popBin, binK, intK, eq_self, true_and, e0_17]
      refine hM _ _ ?_
      clear hM M
      refine pops_mv (.inl rfl) rfl (by simp only [St.eval, upd_at, Nat.reduceEqDiff, if_true, if_false] <;> rfl) ?_
      refine pops_done (hR35 _ ?_)
      clear hR35 R35
      try simp only [thenK]
      exact ⟨_, by omega, _, .refl _ _, i + 1, rfl, by omega, by first | (have e9 := hB5.keeps (Same.keeps (Same.refl _)); rw [hst, showR_1 hg1]; simpa using e9) | (have e9 := hB5.keeps (Same.keeps (Same.refl _)); rw [hst, showR_2 hg1 hg2]; simpa using e9) | (have e9 := hB3.keeps (Same.keeps (Same.refl _)); rw [hst, showR_3 hg1 hg2]; simpa using e9) | (exfalso; omega), by simp only [upd_at, Nat.reduceEqDiff, if_false, e0_2], by simp only [upd_at, Nat.reduceEqDiff, if_false, e0_3], by simp only [upd_at, Nat.reduceEqDiff, if_false, e0_4], by simp only [upd_at, Nat.reduceEqDiff, if_false, e0_15], by simp only [upd_at, Nat.reduceEqDiff, if_false, e0_16], by simp only [upd_at, Nat.reduceEqDiff, if_true, if_false, e0_17]; rw [wrap_succ (by omega)]⟩
     ·skip
      have hg2 := of_decide_eq_false c37
      refine pwp_skip ?_
      try simp only [blockK, thenK]
      try simp only [thenK, scopeK]
      refine hN17 _ ?_
      clear hN17 N17
      refine pwp_reg fun R36 hR36 => ?_
      refine pops_to rfl fun M hM => ?_
      simp only [pop, St.eval, constSlot, upd_at, Nat.reduceEqDiff, if_false, popBin, binK, intK, eq_self, true_and, e0_17]
      refine hM _ _ ?_
      clear hM M
      refine pops_mv (.inl rfl) rfl (by simp only [St.eval, upd_at, Nat.reduceEqDiff, if_true, if_false] <;> rfl) ?_
      refine pops_done (hR36 _ ?_)
      clear hR36 R36
      try simp only [thenK]
      exact ⟨_, by omega, _, .refl _ _, i + 1, rfl, by omega, by first | (have e9 := hB5.keeps (Same.keeps (Same.refl _)); rw [hst, showR_1 hg1]; simpa using e9) | (have e9 := hB5.keeps (Same.keeps (Same.refl _)); rw [hst, showR_2 hg1 hg2]; simpa using e9) | (have e9 := hB3.keeps (Same.keeps (Same.refl _)); rw [hst, showR_3 hg1 hg2]; simpa using e9) | (exfalso; omega), by simp only [upd_at, Nat.reduceEqDiff, if_false, e0_2], by simp only [upd_at, Nat.reduceEqDiff, if_false, e0_3], by simp only [upd_at, Nat.reduceEqDiff, if_false, e0_4], by simp only [upd_at, Nat.reduceEqDiff, if_false, e0_15], by simp only [upd_at, Nat.reduceEqDiff, if_false, e0_16], by simp only [upd_at, Nat.reduceEqDiff, if_true, if_false, e0_17]; rw [wrap_succ (by omega)]⟩
   ·skip
    obtain rfl : i = g.ranges.length := by have := of_decide_eq_false c18; omega
    rw [List.take_length] at hB
    have hsl := setT_len g.neg g.ranges
    refine pwp_exit ?_
    try simp only [thenK, blockK, if_true]
    clear hN16 N16
    try simp only [blockK, scopeK, if_true, Nat.reduceEqDiff, if_false, thenK]
    try simp only [thenK, scopeK]
    refine hN11 _ ?_
    clear hN11 N11
    refine pwp_reg fun R37 hR37 => ?_
    refine pops_to rfl fun M hM => ?_
    simp only [pop, St.eval, upd_at, Nat.reduceEqDiff, if_false, popLoad, loadK, isAggD, Bool.false_eq_true, Tryd.underlying91, sz91, e0_2]
    refine hM _ _ ?_
    clear hM M
    refine pops_to rfl fun M hM => ?_
    simp only [pop, St.eval, constSlot, upd_at, Nat.reduceEqDiff, if_true, if_false, popCall, List.map_nil, svs, List.mapM_cons, List.mapM_nil, Option.bind_eq_bind, Option.bind_some, Option.pure_def, List.append_nil]
    first
      | refine (writeByte_bld W0 h0 id _ 93 hb0 (by first | omega | (simp only [List.length_append]; omega)) _ (hB.keeps (Same.keeps (Same.refl _)))).mono ?_
    rintro _ h6 ⟨rfl, hB6⟩
    refine hM _ _ ?_
    clear hM M
    refine pops_done (hR37 _ ?_)
    clear hR37 R37
    simp only [bodyK]
    exact ⟨_, rfl, _, _, .refl _ _ _, rfl, by rw [← setT_end, ← List.append_assoc]; exact hB6⟩
 ·skip
  have hng : g.neg = false := c11
  refine pwp_skip ?_
  try simp only [thenK]
  refine hN7 _ ?_
  clear hN7 N7
  refine pwp_then fun N38 hN38 => ?_
  refine pwp_then fun N39 hN39 => ?_
  refine pwp_reg fun R40 hR40 => ?_
  refine pops_to rfl fun M hM => ?_
  simp only [pop, St.eval, upd_at, Nat.reduceEqDiff, if_true, if_false, popFieldAddr, fieldOf, List.drop_succ_cons, List.drop_zero, List.getElem?_toArray, List.getElem?_cons_zero, List.getElem?_cons_succ, Tryd.underlying64, sz61]
  refine ⟨⟨_, rfl⟩, hM _ _ ?_⟩
  clear hM M
  refine pops_to rfl fun M hM => ?_
  simp only [pop, St.eval, upd_at, Nat.reduceEqDiff, if_true, if_false, popLoad, loadK, isAggD, Bool.false_eq_true, Tryd.underlying61, sz61, eq_self]
  refine hM _ _ ?_
  clear hM M
  refine pops_to rfl fun M hM => ?_
  simp only [pop, St.eval, upd_at, Nat.reduceEqDiff, if_true, if_false, popCall, List.map_cons, List.map_nil, popBuiltin, popLen, lenOfSlot, List.length_map, Tryd.underlying61, eq_self, List.length_map]
  refine hM _ _ ?_
  clear hM M
  refine pops_mv (.inl rfl) rfl (by simp only [St.eval, constSlot] <;> rfl) ?_
  refine pops_done (hR40 _ ?_)
  clear hR40 R40
  try simp only [thenK]
  refine hN39 _ ?_
  clear hN39 N39
  refine pwp_block ?_
  refine pwp_loop (fun k σ => ∃ (i : Nat), (k = g.ranges.length - i) ∧ (i ≤ g.ranges.length) ∧ (Bld 94 5 h0 σ.hp id (l ++ setT g.neg (g.ranges.take i))) ∧ (σ.env 2 = .sv (.one (.rop [.ptr id 0 0 0]))) ∧ (σ.env 3 = .sv (.one (.rop [pint g.kind, pstr g.text, pbool g.neg, .ro false 2 (rngPV g.ranges), .ro false 1 (encW g.ways)]))) ∧ (σ.env 4 = .sv (.one (.clo (.func 116) [.rop [.ptr id 0 0 0]]))) ∧ (σ.env 15 = .sv (.one (.ro false 2 (rngPV g.ranges)))) ∧ (σ.env 16 = .sv (.one (pint (g.ranges.length : Nat)))) ∧ (σ.env 17 = .sv (.one (pint (i : Nat))))) _ ⟨_, .refl _ _, 0, rfl, ?_⟩ ?_
  · exact ⟨Nat.zero_le _, by first | (have e9 := hB2.keeps (Same.keeps (Same.refl _)); simpa [setT, hng] using e9) | (have e9 := hB1.keeps (Same.keeps (Same.refl _)); simpa [setT, hng] using e9), by simp only [upd_at, Nat.reduceEqDiff, if_true, if_false], by simp only [upd_at, Nat.reduceEqDiff, if_true, if_false], by simp only [upd_at, Nat.reduceEqDiff, if_true, if_false], by simp only [upd_at, Nat.reduceEqDiff, if_true, if_false], by first | rfl | (simp only [upd_at, Nat.reduceEqDiff, if_true, if_false]; rfl), by first | rfl | (simp only [upd_at, Nat.reduceEqDiff, if_true, if_false]; rfl)⟩
  ·rintro k ⟨e, hp0⟩ ⟨i, hk0, hx0_0, sl0, e0_2, e0_3, e0_4, e0_15, e0_16, e0_17⟩
   simp only at sl0 e0_2 e0_3 e0_4 e0_15 e0_16 e0_17
   have hB := sl0
   refine pwp_hpok fun hok0 => ?_
   simp only at hok0
   refine pwp_then fun N41 hN41 => ?_
   refine pwp_reg fun R42 hR42 => ?_
   refine pops_to rfl fun M hM => ?_
   simp only [pop, St.eval, popBin, binK, intK, eq_self, true_and, e0_16, e0_17]
   refine hM _ _ ?_
   clear hM M
   refine pops_done (hR42 _ ?_)
   clear hR42 R42
   try simp only [thenK]
   refine hN41 _ ?_
   clear hN41 N41
   refine pwp_then fun N43 hN43 => ?_
   refine pwp_cond (by simp only [St.eval, upd_at, if_true] <;> rfl) (fun c18 => ?_) (fun c18 => ?_)
   ·skip
    have hi : i < g.ranges.length := by have := of_decide_eq_true c18; omega
    obtain ⟨x, hx⟩ : ∃ x, g.ranges[i]? = some x := ⟨_, List.getElem?_eq_getElem hi⟩
    have hget := rng_at hx
    have hgood := hr x (List.mem_of_getElem? hx)
    simp only [rngBad, Bool.or_eq_false_iff, decide_eq_false_iff_not] at hgood
    have hw29 : IntKind.i64.wrap (x.1 + 1) = x.1 + 1 := wrap_i64 (by omega) (by omega)
    have hsl := setT_len g.neg (g.ranges.take i)
    rw [List.length_take] at hsl
    have hb1 := bnd_len x.1
    have hst := setT_step (neg := g.neg) hx
    refine pwp_skip ?_
    try simp only [thenK]
    refine hN43 _ ?_
    clear hN43 N43
    refine pwp_then fun N44 hN44 => ?_
    refine pwp_block ?_
    refine pwp_then fun N45 hN45 => ?_
    refine pwp_reg fun R46 hR46 => ?_
    refine pops_to rfl fun M hM => ?_
    simp only [pop, St.eval, upd_at, Nat.reduceEqDiff, if_false, popIndexAddr, Tryd.underlying61, sz67, eq_self, true_and, e0_15, e0_17, hget, Int.toNat_natCast]
    refine ⟨Int.natCast_nonneg _, hM _ _ ?_⟩
    clear hM M
    refine pops_to rfl fun M hM => ?_
    simp only [pop, St.eval, upd_at, Nat.reduceEqDiff, if_true, if_false, List.length_cons, List.length_nil, Nat.zero_add, Nat.reduceAdd, Nat.reduceLeDiff, List.take_succ_cons, List.take_nil, popLoad, loadK, isAggD, Tryd.underlying67, sz67, eq_self, true_and]
    refine hM _ _ ?_
    clear hM M
    refine pops_var (hpOk.same hok0 (Same.refl _)) rfl ze67 (zs := [PV.val (.int .i64 0), PV.val (.int .i64 0)]) (by kernel_rfl) (by simp) (by simp only [St.eval, slotCells, upd_at, Nat.reduceEqDiff, if_true, if_false] <;> rfl) (by rfl) (by exact Nat.succ_pos _) (by rw [sz67]; rfl) (fun hv47 sv47 => ?_)
    refine pops_done (hR46 _ ?_)
    clear hR46 R46
    try simp only [thenK]
    refine hN45 _ ?_
    clear hN45 N45
    refine pwp_then fun N48 hN48 => ?_
    refine pwp_reg fun R49 hR49 => ?_
    refine pops_mv (.inl rfl) rfl (by simp only [St.eval, upd_at, Nat.reduceEqDiff, if_false, e0_4] <;> rfl) ?_
    refine pops_to rfl fun M hM => ?_
    simp only [pop, St.eval, constSlot, upd_at, Nat.reduceEqDiff, if_true, if_false, popIndexAddr, Tryd.underlying67, sz3, eq_self]
    refine ⟨by decide, by decide, hM _ _ ?_⟩
    clear hM M
    refine pops_to rfl fun M hM => ?_
    simp only [pop, St.eval, upd_at, Nat.reduceEqDiff, if_true, if_false, popLoad, loadK, isAggD, Bool.false_eq_true, Tryd.underlying3, sz3, eq_self]
    refine hM _ _ ?_
    clear hM M
    refine pops_to rfl fun M hM => ?_
    simp only [pop, St.eval, constSlot, upd_at, Nat.reduceEqDiff, if_true, if_false, popCall, List.map_cons, List.map_nil, svs, List.mapM_cons, List.mapM_nil, Option.bind_eq_bind, Option.bind_some, Option.pure_def, List.cons_append, List.nil_append]
    first
      | refine (bound_bld W0 h0 id _ x.1 hb0 (by first | omega | (simp only [List.length_append]; omega)) _ (hB.keeps (Same.keeps sv47))).mono ?_
    rintro _ h3 ⟨rfl, hB3⟩
    refine hM _ _ ?_
    clear hM M
    refine pops_done (hR49 _ ?_)
    clear hR49 R49
    try simp only [thenK]
    refine hN48 _ ?_
    clear hN48 N48
    refine pwp_then fun N50 hN50 => ?_
    refine pwp_then fun N51 hN51 => ?_
    refine pwp_reg fun R52 hR52 => ?_
    refine pops_to rfl fun M hM => ?_
    simp only [pop, St.eval, constSlot, upd_at, Nat.reduceEqDiff, if_true, if_false, popIndexAddr, Tryd.underlying67, sz3, eq_self]
    refine ⟨by decide, by decide, hM _ _ ?_⟩
    clear hM M
    refine pops_to rfl fun M hM => ?_
    simp only [pop, St.eval, upd_at, Nat.reduceEqDiff, if_true, if_false, popLoad, loadK, isAggD, Bool.false_eq_true, Tryd.underlying3, sz3, eq_self]
    refine hM _ _ ?_
    clear hM M
    refine pops_to rfl fun M hM => ?_
    simp only [pop, St.eval, constSlot, upd_at, Nat.reduceEqDiff, if_true, if_false, popIndexAddr, Tryd.underlying67, sz3, eq_self]
    refine ⟨by decide, by decide, hM _ _ ?_⟩
    clear hM M
    refine pops_to rfl fun M hM => ?_
    simp only [pop, St.eval, upd_at, Nat.reduceEqDiff, if_true, if_false, popLoad, loadK, isAggD, Bool.false_eq_true, Tryd.underlying3, sz3, eq_self]
    refine hM _ _ ?_
    clear hM M
    refine pops_to rfl fun M hM => ?_
    simp only [pop, St.eval, constSlot, upd_at, Nat.reduceEqDiff, if_true, if_false, popBin, binK, intK, eq_self, true_and, hw29]
    refine hM _ _ ?_
    clear hM M
    refine pops_to rfl fun M hM => ?_
    simp only [pop, St.eval, upd_at, Nat.reduceEqDiff, if_true, if_false, popBin, binK, intK, eq_self, true_and]
    refine hM _ _ ?_
    clear hM M
    refine pops_done (hR52 _ ?_)
    clear hR52 R52
    try simp only [thenK]
    refine hN51 _ ?_
    clear hN51 N51
    refine pwp_cond (by simp only [St.eval, upd_at, Nat.reduceEqDiff, if_true, if_false] <;> rfl) (fun c30 => ?_) (fun c30 => ?_)
    ·skip
     have hg1 := of_decide_eq_true c30
     refine pwp_reg fun R53 hR53 => ?_
     refine pops_to rfl fun M hM => ?_
     simp only [pop, St.eval, upd_at, Nat.reduceEqDiff, if_false, popLoad, loadK, isAggD, Bool.false_eq_true, Tryd.underlying91, sz91, e0_2]
     refine hM _ _ ?_
     clear hM M
     refine pops_to rfl fun M hM => ?_
     simp only [pop, St.eval, constSlot, upd_at, Nat.reduceEqDiff, if_true, if_false, popCall, List.map_nil, svs, List.mapM_cons, List.mapM_nil, Option.bind_eq_bind, Option.bind_some, Option.pure_def, List.append_nil]
     first
       | refine (writeByte_bld W0 h0 id _ 45 hb0 (by first | omega | (simp only [List.length_append]; omega)) _ (hB3.keeps (Same.keeps (Same.refl _)))).mono ?_
     rintro _ h4 ⟨rfl, hB4⟩
     refine hM _ _ ?_
     clear hM M
     refine pops_done (hR53 _ ?_)
     clear hR53 R53
     try simp only [thenK]
     refine hN50 _ ?_
     clear hN50 N50
     refine pwp_then fun N54 hN54 => ?_
     refine pwp_reg fun R55 hR55 => ?_
     refine pops_to rfl fun M hM => ?_
     simp only [pop, St.eval, constSlot, upd_at, Nat.reduceEqDiff, if_true, if_false, popIndexAddr, Tryd.underlying67, sz3, eq_self]
     refine ⟨by decide, by decide, hM _ _ ?_⟩
     clear hM M
     refine pops_to rfl fun M hM => ?_
     simp only [pop, St.eval, upd_at, Nat.reduceEqDiff, if_true, if_false, popLoad, loadK, isAggD, Bool.false_eq_true, Tryd.underlying3, sz3, eq_self]
     refine hM _ _ ?_
     clear hM M
     refine pops_to rfl fun M hM => ?_
     simp only [pop, St.eval, constSlot, upd_at, Nat.reduceEqDiff, if_true, if_false, popIndexAddr, Tryd.underlying67, sz3, eq_self]
     refine ⟨by decide, by decide, hM _ _ ?_⟩
     clear hM M
     refine pops_to rfl fun M hM => ?_
     simp only [pop, St.eval, upd_at, Nat.reduceEqDiff, if_true, if_false, popLoad, loadK, isAggD, Bool.false_eq_true, Tryd.underlying3, sz3, eq_self]
     refine hM _ _ ?_
     clear hM M
     refine pops_to rfl fun M hM => ?_
     simp only [pop, St.eval, upd_at, Nat.reduceEqDiff, if_true, if_false, popBin, binK, intK, eq_self, true_and]
     refine hM _ _ ?_
     clear hM M
     refine pops_done (hR55 _ ?_)
     clear hR55 R55
     try simp only [thenK]
     refine hN54 _ ?_
     clear hN54 N54
     refine pwp_cond (by simp only [St.eval, upd_at, Nat.reduceEqDiff, if_true, if_false] <;> rfl) (fun c37 => ?_) (fun c37 => ?_)
     ·skip
      have hg2 := of_decide_eq_true c37
      refine pwp_reg fun R56 hR56 => ?_
      refine pops_mv (.inl rfl) rfl (by simp only [St.eval, upd_at, Nat.reduceEqDiff, if_false, e0_4] <;> rfl) ?_
      refine pops_to rfl fun M hM => ?_
      simp only [pop, St.eval, constSlot, upd_at, Nat.reduceEqDiff, if_true, if_false, popIndexAddr, Tryd.underlying67, sz3, eq_self]
      refine ⟨by decide, by decide, hM _ _ ?_⟩
      clear hM M
      refine pops_to rfl fun M hM => ?_
      simp only [pop, St.eval, upd_at, Nat.reduceEqDiff, if_true, if_false, popLoad, loadK, isAggD, Bool.false_eq_true, Tryd.underlying3, sz3, eq_self]
      refine hM _ _ ?_
      clear hM M
      refine pops_to rfl fun M hM => ?_
      simp only [pop, St.eval, constSlot, upd_at, Nat.reduceEqDiff, if_true, if_false, popCall, List.map_cons, List.map_nil, svs, List.mapM_cons, List.mapM_nil, Option.bind_eq_bind, Option.bind_some, Option.pure_def, List.cons_append, List.nil_append]
      first
        | refine (bound_bld W0 h0 id _ x.2 hb0 (by first | omega | (simp only [List.length_append, List.length_cons, List.length_nil]; omega)) _ (hB4.keeps (Same.keeps (Same.refl _)))).mono ?_
        | refine (bound_bld W0 h0 id _ x.2 hb0 (by first | omega | (simp only [List.length_append, List.length_cons, List.length_nil]; omega)) _ (hB3.keeps (Same.keeps (Same.refl _)))).mono ?_
      rintro _ h5 ⟨rfl, hB5⟩
      refine hM _ _ ?_
      clear hM M
      refine pops_done (hR56 _ ?_)
      clear hR56 R56
      try simp only [blockK, thenK]
      try simp only [thenK, scopeK]
      refine hN44 _ ?_
      clear hN44 N44
      refine pwp_reg fun R57 hR57 => ?_
      refine pops_to rfl fun M hM => ?_
      simp only [pop, St.eval, constSlot, upd_at, Nat.reduceEqDiff, if_false, popBin, binK, intK, eq_self, true_and, e0_17]
      refine hM _ _ ?_
      clear hM M
      refine pops_mv (.inl rfl) rfl (by simp only [St.eval, upd_at, Nat.reduceEqDiff, if_true, if_false] <;> rfl) ?_
      refine pops_done (hR57 _ ?_)
      clear hR57 R57
      try simp only [thenK]
      exact ⟨_, by omega, _, .refl _ _, i + 1, rfl, by omega, by first | (have e9 := hB5.keeps (Same.keeps (Same.refl _)); rw [hst, showR_1 hg1]; simpa using e9) | (have e9 := hB5.keeps (Same.keeps (Same.refl _)); rw [hst, showR_2 hg1 hg2]; simpa using e9) | (have e9 := hB3.keeps (Same.keeps (Same.refl _)); rw [hst, showR_3 hg1 hg2]; simpa using e9) | (exfalso; omega), by simp only [upd_at, Nat.reduceEqDiff, if_false, e0_2], by simp only [upd_at, Nat.reduceEqDiff, if_false, e0_3], by simp only [upd_at, Nat.reduceEqDiff, if_false, e0_4], by simp only [upd_at, Nat.reduceEqDiff, if_false, e0_15], by simp only [upd_at, Nat.reduceEqDiff, if_false, e0_16], by simp only [upd_at, Nat.reduceEqDiff, if_true, if_false, e0_17]; rw [wrap_succ (by omega)]⟩
     ·skip
      have hg2 := of_decide_eq_false c37
      refine pwp_skip ?_
      try simp only [blockK, thenK]
      try simp only [thenK, scopeK]
      refine hN44 _ ?_
      clear hN44 N44
      refine pwp_reg fun R58 hR58 => ?_
      refine pops_to rfl fun M hM => ?_
      simp only [pop, St.eval, constSlot, upd_at, Nat.reduceEqDiff, if_false, popBin, binK, intK, eq_self, true_and, e0_17]
      refine hM _ _ ?_
      clear hM M
      refine pops_mv (.inl rfl) rfl (by simp only [St.eval, upd_at, Nat.reduceEqDiff, if_true, if_false] <;> rfl) ?_
      refine pops_done (hR58 _ ?_)
      clear hR58 R58
      try simp only [thenK]
      exact ⟨_, by omega, _, .refl _ _, i + 1, rfl, by omega, by first | (have e9 := hB5.keeps (Same.keeps (Same.refl _)); rw [hst, showR_1 hg1]; simpa using e9) | (have e9 := hB5.keeps (Same.keeps (Same.refl _)); rw [hst, showR_2 hg1 hg2]; simpa using e9) | (have e9 := hB3.keeps (Same.keeps (Same.refl _)); rw [hst, showR_3 hg1 hg2]; simpa using e9) | (exfalso; omega), by simp only [upd_at, Nat.reduceEqDiff, if_false, e0_2], by simp only [upd_at, Nat.reduceEqDiff, if_false, e0_3], by simp only [upd_at, Nat.reduceEqDiff, if_false, e0_4], by simp only [upd_at, Nat.reduceEqDiff, if_false, e0_15], by simp only [upd_at, Nat.reduceEqDiff, if_false, e0_16], by simp only [upd_at, Nat.reduceEqDiff, if_true, if_false, e0_17]; rw [wrap_succ (by omega)]⟩
    ·skip
     have hg1 := of_decide_eq_false c30
     refine pwp_skip ?_
     try simp only [thenK]
     refine hN50 _ ?_
     clear hN50 N50
     refine pwp_then fun N59 hN59 => ?_
     refine pwp_reg fun R60 hR60 => ?_
     refine pops_to rfl fun M hM => ?_
     simp only [pop, St.eval, constSlot, upd_at, Nat.reduceEqDiff, if_true, if_false, popIndexAddr, Tryd.underlying67, sz3, eq_self]
     refine ⟨by decide, by decide, hM _ _ ?_⟩
     clear hM M
     refine pops_to rfl fun M hM => ?_
     simp only [pop, St.eval, upd_at, Nat.reduceEqDiff, if_true, if_false, popLoad, loadK, isAggD, Bool.false_eq_true, Tryd.underlying3, sz3, eq_self]
     refine hM _ _ ?_
     clear hM M
     refine pops_to rfl fun M hM => ?_
     simp only [pop, St.eval, constSlot, upd_at, Nat.reduceEqDiff, if_true, if_false, popIndexAddr, Tryd.underlying67, sz3, eq_self]
     refine ⟨by decide, by decide, hM _ _ ?_⟩
     clear hM M
     refine pops_to rfl fun M hM => ?_
     simp only [pop, St.eval, upd_at, Nat.reduceEqDiff, if_true, if_false, popLoad, loadK, isAggD, Bool.false_eq_true, Tryd.underlying3, sz3, eq_self]
     refine hM _ _ ?_
     clear hM M
     refine pops_to rfl fun M hM => ?_
     simp only [pop, St.eval, upd_at, Nat.reduceEqDiff, if_true, if_false, popBin, binK, intK, eq_self, true_and]
     refine hM _ _ ?_
     clear hM M
     refine pops_done (hR60 _ ?_)
     clear hR60 R60
     try simp only [thenK]
     refine hN59 _ ?_
     clear hN59 N59
     refine pwp_cond (by simp only [St.eval, upd_at, Nat.reduceEqDiff, if_true, if_false] <;> rfl) (fun c37 => ?_) (fun c37 => ?_)
     ·skip
      have hg2 := of_decide_eq_true c37
      refine pwp_reg fun R61 hR61 => ?_
      refine pops_mv (.inl rfl) rfl (by simp only [St.eval, upd_at, Nat.reduceEqDiff, if_false, e0_4] <;> rfl) ?_
      refine pops_to rfl fun M hM => ?_
      simp only [pop, St.eval, constSlot, upd_at, Nat.reduceEqDiff, if_true, if_false, popIndexAddr, Tryd.underlying67, sz3, eq_self]
      refine ⟨by decide, by decide, hM _ _ ?_⟩
      clear hM M
      refine pops_to rfl fun M hM => ?_
      simp only [pop, St.eval, upd_at, Nat.reduceEqDiff, if_true, if_false, popLoad, loadK, isAggD, Bool.false_eq_true, Tryd.underlying3, sz3, eq_self]
      refine hM _ _ ?_
      clear hM M
      refine pops_to rfl fun M hM => ?_
      simp only [pop, St.eval, constSlot, upd_at, Nat.reduceEqDiff, if_true, if_false, popCall, List.map_cons, List.map_nil, svs, List.mapM_cons, List.mapM_nil, Option.bind_eq_bind, Option.bind_some, Option.pure_def, List.cons_append, List.nil_append]
      first
        | refine (bound_bld W0 h0 id _ x.2 hb0 (by first | omega | (simp only [List.length_append, List.length_cons, List.length_nil]; omega)) _ (hB4.keeps (Same.keeps (Same.refl _)))).mono ?_
        | refine (bound_bld W0 h0 id _ x.2 hb0 (by first | omega | (simp only [List.length_append]; omega)) _ (hB3.keeps (Same.keeps (Same.refl _)))).mono ?_
      rintro _ h5 ⟨rfl, hB5⟩
      refine hM _ _ ?_
      clear hM M
      refine pops_done (hR61 _ ?_)
      clear hR61 R61
      try simp only [blockK, thenK]
      try simp only [thenK, scopeK]
      refine hN44 _ ?_
      clear hN44 N44
      refine pwp_reg fun R62 hR62 => ?_
      refine pops_to rfl fun M hM => ?_
      simp only [pop, St.eval, constSlot, upd_at, Nat.reduceEqDiff, if_false, popBin, binK, intK, eq_self, true_and, e0_17]
      refine hM _ _ ?_
      clear hM M
      refine pops_mv (.inl rfl) rfl (by simp only [St.eval, upd_at, Nat.reduceEqDiff, if_true, if_false] <;> rfl) ?_
      refine pops_done (hR62 _ ?_)
      clear hR62 R62
      try simp only [thenK]
      exact ⟨_, by omega, _, .refl _ _, i + 1, rfl, by omega, by first | (have e9 := hB5.keeps (Same.keeps (Same.refl _)); rw [hst, showR_1 hg1]; simpa using e9) | (have e9 := hB5.keeps (Same.keeps (Same.refl _)); rw [hst, showR_2 hg1 hg2]; simpa using e9) | (have e9 := hB3.keeps (Same.keeps (Same.refl _)); rw [hst, showR_3 hg1 hg2]; simpa using e9) | (exfalso; omega), by simp only [upd_at, Nat.reduceEqDiff, if_false, e0_2], by simp only [upd_at, Nat.reduceEqDiff, if_false, e0_3], by simp only [upd_at, Nat.reduceEqDiff, if_false, e0_4], by simp only [upd_at, Nat.reduceEqDiff, if_false, e0_15], by simp only [upd_at, Nat.reduceEqDiff, if_false, e0_16], by simp only [upd_at, Nat.reduceEqDiff, if_true, if_false, e0_17]; rw [wrap_succ (by omega)]⟩
     ·skip
      have hg2 := of_decide_eq_false c37
      refine pwp_skip ?_
      try simp only [blockK, thenK]
      try simp only [thenK, scopeK]
      refine hN44 _ ?_
      clear hN44 N44
      refine pwp_reg fun R63 hR63 => ?_
      refine pops_to rfl fun M hM => ?_
      simp only [pop, St.eval, constSlot, upd_at, Nat.reduceEqDiff, if_false, popBin, binK, intK, eq_self, true_and, e0_17]
      refine hM _ _ ?_
      clear hM M
      refine pops_mv (.inl rfl) rfl (by simp only [St.eval, upd_at, Nat.reduceEqDiff, if_true, if_false] <;> rfl) ?_
      refine pops_done (hR63 _ ?_)
      clear hR63 R63
      try simp only [thenK]
      exact ⟨_, by omega, _, .refl _ _, i + 1, rfl, by omega, by first | (have e9 := hB5.keeps (Same.keeps (Same.refl _)); rw [hst, showR_1 hg1]; simpa using e9) | (have e9 := hB5.keeps (Same.keeps (Same.refl _)); rw [hst, showR_2 hg1 hg2]; simpa using e9) | (have e9 := hB3.keeps (Same.keeps (Same.refl _)); rw [hst, showR_3 hg1 hg2]; simpa using e9) | (exfalso; omega), by simp only [upd_at, Nat.reduceEqDiff, if_false, e0_2], by simp only [upd_at, Nat.reduceEqDiff, if_false, e0_3], by simp only [upd_at, Nat.reduceEqDiff, if_false, e0_4], by simp only [upd_at, Nat.reduceEqDiff, if_false, e0_15], by simp only [upd_at, Nat.reduceEqDiff, if_false, e0_16], by simp only [upd_at, Nat.reduceEqDiff, if_true, if_false, e0_17]; rw [wrap_succ (by omega)]⟩
   ·skip
    obtain rfl : i = g.ranges.length := by have := of_decide_eq_false c18; omega
    rw [List.take_length] at hB
    have hsl := setT_len g.neg g.ranges
    refine pwp_exit ?_
    try simp only [thenK, blockK, if_true]
    clear hN43 N43
    try simp only [blockK, scopeK, if_true, Nat.reduceEqDiff, if_false, thenK]
    try simp only [thenK, scopeK]
    refine hN38 _ ?_
    clear hN38 N38
    refine pwp_reg fun R64 hR64 => ?_
    refine pops_to rfl fun M hM => ?_
    simp only [pop, St.eval, upd_at, Nat.reduceEqDiff, if_false, popLoad, loadK, isAggD, Bool.false_eq_true, Tryd.underlying91, sz91, e0_2]
    refine hM _ _ ?_
    clear hM M
    refine pops_to rfl fun M hM => ?_
    simp only [pop, St.eval, constSlot, upd_at, Nat.reduceEqDiff, if_true, if_false, popCall, List.map_nil, svs, List.mapM_cons, List.mapM_nil, Option.bind_eq_bind, Option.bind_some, Option.pure_def, List.append_nil]
    first
      | refine (writeByte_bld W0 h0 id _ 93 hb0 (by first | omega | (simp only [List.length_append]; omega)) _ (hB.keeps (Same.keeps (Same.refl _)))).mono ?_
    rintro _ h6 ⟨rfl, hB6⟩
    refine hM _ _ ?_
    clear hM M
    refine pops_done (hR64 _ ?_)
    clear hR64 R64
    simp only [bodyK]
    exact ⟨_, rfl, _, _, .refl _ _ _, rfl, by rw [← setT_end, ← List.append_assoc]; exact hB6⟩
end Go.Pw
