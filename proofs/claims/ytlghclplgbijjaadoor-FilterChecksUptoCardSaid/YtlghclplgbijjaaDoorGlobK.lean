/- Own work: part of the proof of the row YtlghclplgbijjaaDoorRowFilterChecksUpto; no condition of its own. -/
import Derived.Test.YtlghclplgbijjaaDoorGlobJ
import Derived.Test.YtlghclplgbijjaaDoorGlobF
import Derived.Test.YtlghclplgbijjaaDoorGFacts
namespace Go.Pw
open Go Go.RowKit Go.Proofs
set_option maxRecDepth 100000
set_option linter.unusedSimpArgs false
set_option linter.unusedVariables false
theorem starsR_fun (W0 : World) (l : List GPart) (hl : lW l ≤ 1048576) : PFun Tryd.prog W0 24 [.one (.ro false 5 (encL l))] (.sv (.one (pbool (stL false l)))) :=
  rec_parts (Q := fun l => lW l ≤ 1048576 → PFun Tryd.prog W0 24 [.one (.ro false 5 (encL l))] (.sv (.one (pbool (stL false l))))) (fun l ih hl => starsR_fun1 W0 l hl ih) l hl
theorem shW_false : ∀ w : List (List GPart), shW false w = Lib.joinTail [44] (w.map (shL true))
  | [] => by rw [shW]; rfl
  | l :: w => by
    rw [shW, shW_false w]
    simp [Lib.joinTail]
theorem join_ways {w : List (List GPart)} (h : w ≠ []) : shW true w = 123 :: Lib.join (w.map (shL true)) [44] := by
  cases w with
  | nil => exact absurd rfl h
  | cons l w =>
    rw [shW, List.map_cons, Lib.join_cons, shW_false w]
    rfl
theorem u8_44 (c : UInt8) : (((c.toNat : Nat) : Int) == 44) = (c == 44) := by
  rw [Bool.eq_iff_iff, beq_iff_eq, beq_iff_eq]
  constructor
  · intro h
    apply UInt8.toNat_inj.1
    show c.toNat = 44
    omega
  · rintro rfl; rfl
theorem u8_47 (c : UInt8) : (((c.toNat : Nat) : Int) == 47) = (c == 47) := by
  rw [Bool.eq_iff_iff, beq_iff_eq, beq_iff_eq]
  constructor
  · intro h
    apply UInt8.toNat_inj.1
    show c.toNat = 47
    omega
  · rintro rfl; rfl
theorem escB_ref (w : Bool) (c : UInt8) : (([92, 42, 63, 91, 93, 123, 125] : List UInt8).contains c || (w && (c == 44))) = escB w c := rfl
theorem esc_takeK {p : UInt8 → Bool} {s : List UInt8} {i : Nat} {c : UInt8} (h : s[i]? = some c) : escT p (s.take (i + 1)) = escT p (s.take i) ++ (if p c then [92, c] else [c]) := by
  rw [take_at h, escT_app, escT, escT, List.append_nil]
theorem cut_one {s : List UInt8} {i : Nat} {c : UInt8} (h : s[i]? = some c) : (s.take (i + 1)).drop i = [c] := by
  have hl := (List.getElem?_eq_some_iff.1 h).1
  rw [take_at h, List.drop_append_of_le_length (by rw [List.length_take]; omega), List.drop_eq_nil_of_le (by rw [List.length_take]; omega)]; rfl
theorem shL_takeK {w : Bool} {l : List GPart} {i : Nat} {g : GPart} (h : l[i]? = some g) : shL w (l.take (i + 1)) = shL w (l.take i) ++ shG w g := by rw [take_at h, shL_app, shL_one]
theorem form_ways {g : GPart} (h : formBad g = false) (h6 : g.kind = 6) : g.ways ≠ [] := by
  intro e
  rw [formBad_6 h6, e] at h
  simp at h
theorem lW_tk (l : List GPart) (i : Nat) : lW (l.take i) ≤ lW l := by
  have key : ∀ a b : List GPart, lW (a ++ b) = lW a + lW b := fun a b => by
    induction a with
    | nil => rw [List.nil_append, lW_nil, Nat.zero_add]
    | cons g a ih => rw [List.cons_append, lW_cons, ih, lW_cons]; omega
  have e := key (l.take i) (l.drop i)
  rw [List.take_append_drop] at e
  omega
theorem nm48 : (Tryd.f48.name == "runtime.NumGoroutine") = false := by kernel_rfl
set_option maxHeartbeats 8000000 in
theorem showParts_fun1 (W0 : World) (l : List GPart) (hl : lW l ≤ 1048576) (b : Bool) (hc : chkL b l = 0) (w : Bool) (ih : ∀ l' : List GPart, lW l' < lW l → lW l' ≤ 1048576 → ∀ b', chkL b' l' = 0 → ∀ w' : Bool, PFun Tryd.prog W0 48 [.one (.ro false 5 (encL l')), .one (pbool w')] (.sv (.one (pstr (shL w' l'))))) :
  PFun Tryd.prog W0 48 [.one (.ro false 5 (encL l)), .one (pbool w)] (.sv (.one (pstr (shL w l)))) := by
 intro h
 have hln := lW_len l
 refine pcalls2 (n := 96) Tryd.func48 rfl nm48 rfl fun hb => ?_
 refine pwp_then fun N1 hN1 => ?_
 refine pwp_reg fun R2 hR2 => ?_
 refine pops_mv (.inr rfl) rfl (by simp only [St.eval, constSlot] <;> rfl) ?_
 refine pops_done (hR2 _ ?_)
 clear hR2 R2
 try simp only [thenK]
 refine hN1 _ ?_
 clear hN1 N1
 refine pwp_then fun N3 hN3 => ?_
 refine pwp_reg fun R4 hR4 => ?_
 refine pops_mv (.inr rfl) rfl (by simp only [St.eval, constSlot] <;> rfl) ?_
 refine pops_done (hR4 _ ?_)
 clear hR4 R4
 try simp only [thenK]
 refine hN3 _ ?_
 clear hN3 N3
 refine pwp_then fun N5 hN5 => ?_
 refine pwp_then fun N6 hN6 => ?_
 refine pwp_reg fun R7 hR7 => ?_
 refine pops_mv (.inl rfl) rfl (by simp only [St.eval, upd_at, Nat.reduceEqDiff, if_true, if_false] <;> rfl) ?_
 refine pops_to rfl fun M hM => ?_
 simp only [pop, St.eval, upd_at, Nat.reduceEqDiff, if_true, if_false, popCall, List.map_cons, List.map_nil, popBuiltin, popLen, lenOfSlot, Tryd.underlying22, eq_self, encL_len]
 refine hM _ _ ?_
 clear hM M
 refine pops_mv (.inl rfl) rfl (by simp only [St.eval, constSlot] <;> rfl) ?_
 refine pops_done (hR7 _ ?_)
 clear hR7 R7
 try simp only [thenK]
 refine hN6 _ ?_
 clear hN6 N6
 refine pwp_block ?_
 refine pwp_loop (fun k σ => ∃ (i : Nat), (k = l.length - i) ∧ (i ≤ l.length) ∧ (Keeps h σ.hp) ∧ (σ.env 0 = .sv (.one (.ro false 5 (encL l)))) ∧ (σ.env 1 = .sv (.one (pbool w))) ∧ (σ.env 12 = .sv (.one (.ro false 5 (encL l)))) ∧ (σ.env 13 = .sv (.one (pint (l.length : Nat)))) ∧ (σ.env 14 = .sv (.one (pint (i : Nat)))) ∧ (σ.env 5 = .sv (.one (pstr (shL w (l.take i)))))) _ ⟨_, .refl _ _, 0, rfl, ?_⟩ ?_
 · exact ⟨Nat.zero_le _, Same.keeps (Same.refl _), by simp only [upd_at, Nat.reduceEqDiff, if_true, if_false], by simp only [upd_at, Nat.reduceEqDiff, if_true, if_false], by simp only [upd_at, Nat.reduceEqDiff, if_true, if_false], by first | rfl | (simp only [upd_at, Nat.reduceEqDiff, if_true, if_false]; rfl), by first | rfl | (simp only [upd_at, Nat.reduceEqDiff, if_true, if_false]; rfl), by first | (simp only [upd_at, Nat.reduceEqDiff, if_true, if_false, List.take_zero, shL]; done) | (simp only [upd_at, Nat.reduceEqDiff, if_true, if_false, List.take_zero, shL]; rfl)⟩
 ·rintro k ⟨e, hp0⟩ ⟨i, hk0, hx0_0, sl0, e0_0, e0_1, e0_12, e0_13, e0_14, e0_5⟩
  simp only at sl0 e0_0 e0_1 e0_12 e0_13 e0_14 e0_5
  have hKa := sl0
  refine pwp_hpok fun hok0 => ?_
  simp only at hok0
  refine pwp_then fun N8 hN8 => ?_
  refine pwp_reg fun R9 hR9 => ?_
  refine pops_to rfl fun M hM => ?_
  simp only [pop, St.eval, popBin, binK, intK, eq_self, true_and, e0_13, e0_14]
  refine hM _ _ ?_
  clear hM M
  refine pops_done (hR9 _ ?_)
  clear hR9 R9
  try simp only [thenK]
  refine hN8 _ ?_
  clear hN8 N8
  refine pwp_then fun N10 hN10 => ?_
  refine pwp_cond (by simp only [St.eval, upd_at, if_true] <;> rfl) (fun c15 => ?_) (fun c15 => ?_)
  ·skip
   have hi : i < l.length := by have := of_decide_eq_true c15; omega
   obtain ⟨g, hg⟩ : ∃ g, l[i]? = some g := ⟨_, List.getElem?_eq_getElem hi⟩
   have hget := encL_at hg
   rw [encG_eq] at hget
   have hgw := lW_at hg
   have hge := gW_eq g
   have hrl := rng_len g.ranges
   have hwl := wW_len g.ways
   obtain ⟨hkk, hfm, hcg⟩ := chk_ok hc g (List.mem_of_getElem? hg)
   obtain ⟨hgr, hcw⟩ := chkG_parts hcg
   have hsl := shL_len w (l.take i)
   have htw := lW_tk l i
   have hss := showS_len g.neg g.ranges
   have hswl := shW_len true g.ways
   have hst := shL_takeK (w := w) hg
   refine pwp_skip ?_
   try simp only [thenK]
   refine hN10 _ ?_
   clear hN10 N10
   refine pwp_then fun N11 hN11 => ?_
   refine pwp_block ?_
   refine pwp_then fun N12 hN12 => ?_
   refine pwp_reg fun R13 hR13 => ?_
   refine pops_to rfl fun M hM => ?_
   simp only [pop, St.eval, upd_at, Nat.reduceEqDiff, if_false, popIndexAddr, Tryd.underlying22, sz64, eq_self, true_and, e0_12, e0_14, hget, Int.toNat_natCast]
   refine ⟨Int.natCast_nonneg _, hM _ _ ?_⟩
   clear hM M
   refine pops_to rfl fun M hM => ?_
   simp only [pop, St.eval, upd_at, Nat.reduceEqDiff, if_true, if_false, List.length_cons, List.length_nil, Nat.zero_add, Nat.reduceAdd, Nat.reduceLeDiff, List.take_succ_cons, List.take_nil, popLoad, loadK, isAggD, Tryd.underlying64, sz64, eq_self, true_and]
   refine hM _ _ ?_
   clear hM M
   refine pops_var (hpOk.same hok0 (Same.refl _)) rfl ze64 (zs := [PV.val (.int .i64 0), PV.val (.string ⟨#[]⟩), PV.val (.bool false), PV.val (.slice none 0 0), PV.val (.slice none 0 0)]) (by kernel_rfl) (by simp) (by simp only [St.eval, slotCells, upd_at, Nat.reduceEqDiff, if_true, if_false] <;> rfl) (by rfl) (by exact Nat.succ_pos _) (by rw [sz64]; rfl) (fun hv14 sv14 => ?_)
   refine pops_done (hR13 _ ?_)
   clear hR13 R13
   try simp only [thenK]
   refine hN12 _ ?_
   clear hN12 N12
   refine pwp_then fun N15 hN15 => ?_
   refine pwp_reg fun R16 hR16 => ?_
   refine pops_to rfl fun M hM => ?_
   simp only [pop, St.eval, upd_at, Nat.reduceEqDiff, if_true, if_false, popFieldAddr, fieldOf, List.drop_zero, List.getElem?_toArray, List.getElem?_cons_zero, Tryd.underlying64, sz3]
   refine ⟨⟨_, rfl⟩, hM _ _ ?_⟩
   clear hM M
   refine pops_to rfl fun M hM => ?_
   simp only [pop, St.eval, upd_at, Nat.reduceEqDiff, if_true, if_false, popLoad, loadK, isAggD, Bool.false_eq_true, Tryd.underlying3, sz3, eq_self]
   refine hM _ _ ?_
   clear hM M
   refine pops_done (hR16 _ ?_)
   clear hR16 R16
   try simp only [thenK]
   refine hN15 _ ?_
   clear hN15 N15
   refine pwp_block ?_
   refine pwp_then fun N17 hN17 => ?_
   refine pwp_reg fun R18 hR18 => ?_
   refine pops_to rfl fun M hM => ?_
   simp only [pop, St.eval, constSlot, upd_at, Nat.reduceEqDiff, if_true, if_false, popBin, binK, intK, eq_self, true_and]
   refine hM _ _ ?_
   clear hM M
   refine pops_mv (.inr rfl) rfl (by simp only [St.eval, upd_at, Nat.reduceEqDiff, if_true, if_false] <;> rfl) ?_
   refine pops_done (hR18 _ ?_)
   clear hR18 R18
   try simp only [thenK]
   refine hN17 _ ?_
   clear hN17 N17
   refine pwp_cond (by simp only [St.eval, upd_at, Nat.reduceEqDiff, if_true, if_false] <;> rfl) (fun c20 => ?_) (fun c20 => ?_)
   ·skip
    have hk : g.kind = 1 := by simpa using c20
    have hsh : shG w g = escT (escB w) g.text := by rw [shG_eq, if_pos hk]
    refine pwp_then fun N19 hN19 => ?_
    refine pwp_reg fun R20 hR20 => ?_
    refine pops_to rfl fun M hM => ?_
    simp only [pop, St.eval, upd_at, Nat.reduceEqDiff, if_true, if_false, popFieldAddr, fieldOf, List.drop_succ_cons, List.drop_zero, List.getElem?_toArray, List.getElem?_cons_zero, List.getElem?_cons_succ, Tryd.underlying64, sz9]
    refine ⟨⟨_, rfl⟩, hM _ _ ?_⟩
    clear hM M
    refine pops_to rfl fun M hM => ?_
    simp only [pop, St.eval, upd_at, Nat.reduceEqDiff, if_true, if_false, popLoad, loadK, isAggD, Bool.false_eq_true, Tryd.underlying9, sz9, eq_self]
    refine hM _ _ ?_
    clear hM M
    refine pops_to rfl fun M hM => ?_
    simp only [pop, St.eval, upd_at, Nat.reduceEqDiff, if_true, if_false, popCall, List.map_cons, List.map_nil, popBuiltin, popLen, Tryd.underlying9, eq_self, str_size]
    refine hM _ _ ?_
    clear hM M
    refine pops_mv (.inl rfl) rfl (by simp only [St.eval, constSlot] <;> rfl) ?_
    refine pops_done (hR20 _ ?_)
    clear hR20 R20
    try simp only [thenK]
    refine hN19 _ ?_
    clear hN19 N19
    refine pwp_block ?_
    refine pwp_loop (fun k σ => ∃ (q : Nat), (k = g.text.length - q) ∧ (q ≤ g.text.length) ∧ (Keeps h σ.hp) ∧ (σ.env 0 = .sv (.one (.ro false 5 (encL l)))) ∧ (σ.env 1 = .sv (.one (pbool w))) ∧ (σ.env 12 = .sv (.one (.ro false 5 (encL l)))) ∧ (σ.env 13 = .sv (.one (pint (l.length : Nat)))) ∧ (σ.env 14 = .sv (.one (pint (i : Nat)))) ∧ (σ.env 5 = .sv (.one (pstr (shL w (l.take i) ++ escT (escB w) (g.text.take q))))) ∧ (σ.env 7 = .sv (.one (.rop [pint g.kind, pstr g.text, pbool g.neg, .ro false 2 (rngPV g.ranges), .ro false 1 (encW g.ways)]))) ∧ (σ.env 24 = .sv (.one (pint (g.text.length : Nat)))) ∧ (σ.env 25 = .sv (.one (pint (q : Nat))))) _ ⟨_, .refl _ _, 0, rfl, ?_⟩ ?_
    · exact ⟨Nat.zero_le _, hKa.trans (Same.keeps sv14), by simp only [upd_at, Nat.reduceEqDiff, if_false, e0_0], by simp only [upd_at, Nat.reduceEqDiff, if_false, e0_1], by simp only [upd_at, Nat.reduceEqDiff, if_false, e0_12], by simp only [upd_at, Nat.reduceEqDiff, if_false, e0_13], by simp only [upd_at, Nat.reduceEqDiff, if_false, e0_14], by simp only [upd_at, Nat.reduceEqDiff, if_false, e0_5, List.take_zero, escT, List.append_nil], by simp only [upd_at, Nat.reduceEqDiff, if_true, if_false], by first | rfl | (simp only [upd_at, Nat.reduceEqDiff, if_true, if_false]; rfl), by first | rfl | (simp only [upd_at, Nat.reduceEqDiff, if_true, if_false]; rfl)⟩
    ·rintro k ⟨e, hp1⟩ ⟨q, hk1, hx1_0, sl1, e1_0, e1_1, e1_12, e1_13, e1_14, e1_5, e1_7, e1_24, e1_25⟩
     simp only at sl1 e1_0 e1_1 e1_12 e1_13 e1_14 e1_5 e1_7 e1_24 e1_25
     have hKt := sl1
     refine pwp_hpok fun hok1 => ?_
     simp only at hok1
     refine pwp_then fun N21 hN21 => ?_
     refine pwp_reg fun R22 hR22 => ?_
     refine pops_to rfl fun M hM => ?_
     simp only [pop, St.eval, popBin, binK, intK, eq_self, true_and, e1_24, e1_25]
     refine hM _ _ ?_
     clear hM M
     refine pops_done (hR22 _ ?_)
     clear hR22 R22
     try simp only [thenK]
     refine hN21 _ ?_
     clear hN21 N21
     refine pwp_then fun N23 hN23 => ?_
     refine pwp_cond (by simp only [St.eval, upd_at, if_true] <;> rfl) (fun c26 => ?_) (fun c26 => ?_)
     ·skip
      have hq9 : q < g.text.length := by have := of_decide_eq_true c26; omega
      obtain ⟨c, hx⟩ : ∃ c, g.text[q]? = some c := ⟨_, List.getElem?_eq_getElem hq9⟩
      have hw51 : IntKind.i64.wrap ((q : Int) + 1) = ((q + 1 : Nat) : Int) := wrap1 (by omega)
      have hcut := cut_one hx
      have hel := escT_len (escB w) (g.text.take q)
      rw [List.length_take] at hel
      have hes := esc_takeK (p := escB w) hx
      refine pwp_skip ?_
      try simp only [thenK]
      refine hN23 _ ?_
      clear hN23 N23
      refine pwp_then fun N24 hN24 => ?_
      refine pwp_block ?_
      refine pwp_then fun N25 hN25 => ?_
      refine pwp_reg fun R26 hR26 => ?_
      refine pops_mv (.inl rfl) rfl (by simp only [St.eval, upd_at, Nat.reduceEqDiff, if_false, e1_25] <;> rfl) ?_
      refine pops_mv (.inr rfl) rfl (by simp only [St.eval, upd_at, Nat.reduceEqDiff, if_true, if_false] <;> rfl) ?_
      refine pops_done (hR26 _ ?_)
      clear hR26 R26
      try simp only [thenK]
      refine hN25 _ ?_
      clear hN25 N25
      refine pwp_then fun N27 hN27 => ?_
      refine pwp_then fun N28 hN28 => ?_
      refine pwp_reg fun R29 hR29 => ?_
      refine pops_to rfl fun M hM => ?_
      simp only [pop, St.eval, upd_at, Nat.reduceEqDiff, if_false, popFieldAddr, fieldOf, List.drop_succ_cons, List.drop_zero, List.getElem?_toArray, List.getElem?_cons_zero, List.getElem?_cons_succ, Tryd.underlying64, sz9, e1_7]
      refine ⟨⟨_, rfl⟩, hM _ _ ?_⟩
      clear hM M
      refine pops_to rfl fun M hM => ?_
      simp only [pop, St.eval, upd_at, Nat.reduceEqDiff, if_true, if_false, popLoad, loadK, isAggD, Bool.false_eq_true, Tryd.underlying9, sz9, eq_self]
      refine hM _ _ ?_
      clear hM M
      refine pops_mv (.inl rfl) rfl (by simp only [St.eval, upd_at, Nat.reduceEqDiff, if_true, if_false] <;> rfl) ?_
      refine pops_to rfl fun M hM => ?_
      simp only [pop, St.eval, upd_at, Nat.reduceEqDiff, if_true, if_false, popIndex, Tryd.underlying9, eq_self, str_get, hx, Int.toNat_natCast]
      refine ⟨Int.natCast_nonneg _, hM _ _ ?_⟩
      clear hM M
      refine pops_to rfl fun M hM => ?_
      simp only [pop, St.eval, constSlot, upd_at, Nat.reduceEqDiff, if_true, if_false, popCall, List.map_nil, svs, List.mapM_cons, List.mapM_nil, Option.bind_eq_bind, Option.bind_some, Option.pure_def, List.append_nil]
      refine PFun.use (indexByte_fun W0 [92, 42, 63, 91, 93, 123, 125] c) fun h1 s1 => hM _ _ ?_
      replace s1 := Same.trans (Same.refl _) s1
      clear hM M
      refine pops_to rfl fun M hM => ?_
      simp only [pop, St.eval, constSlot, upd_at, Nat.reduceEqDiff, if_true, if_false, popBin, binK, intK, eq_self, true_and]
      refine hM _ _ ?_
      clear hM M
      refine pops_mv (.inl rfl) rfl (by simp only [St.eval, upd_at, Nat.reduceEqDiff, if_true, if_false] <;> rfl) ?_
      apply pops_or0 9 34 43 [35, 36, 37, 38, 39, 40, 41, 42] (by simp only [upd_at, Nat.reduceEqDiff, if_true, if_false] <;> rfl)
      ·skip
       intro g34_0 J30 hJ30
       simp only [List.take_succ_cons, List.take_zero]
       simp only [anyAt_cons, anyAt_nil] at hJ30
       refine pops_mvg (.inl rfl) rfl rfl (by simp only [upd_at, Nat.reduceEqDiff, if_true, if_false, g34_0]) (by simp only [St.eval, upd_at, Nat.reduceEqDiff, if_false, e1_1, g34_0] <;> rfl) ?_
       refine pops_mvg (.inl rfl) rfl rfl (by simp only [upd_at, Nat.reduceEqDiff, if_true, if_false, g34_0]) (by simp only [St.eval, upd_at, Nat.reduceEqDiff, if_true, if_false, g34_0] <;> rfl) ?_
       apply pops_and0 6 36 42 [37, 38, 39, 40, 41] (by simp only [upd_at, Nat.reduceEqDiff, if_true, if_false, g34_0] <;> rfl)
       ·skip
        intro g36_1 J31 hJ31
        simp only [List.take_succ_cons, List.take_zero]
        simp only [anyAt_cons, anyAt_nil] at hJ31
        refine pops_do rfl rfl (by simp only [upd_at, Nat.reduceEqDiff, if_true, if_false, g34_0, g36_1]) fun M hM => ?_
        simp only [pop, St.eval, upd_at, Nat.reduceEqDiff, if_false, popFieldAddr, fieldOf, List.drop_succ_cons, List.drop_zero, List.getElem?_toArray, List.getElem?_cons_zero, List.getElem?_cons_succ, Tryd.underlying64, sz9, e1_7, g34_0, g36_1]
        refine ⟨⟨_, rfl⟩, hM _ _ ?_⟩
        clear hM M
        refine pops_do rfl rfl (by simp only [upd_at, Nat.reduceEqDiff, if_true, if_false, g34_0, g36_1]) fun M hM => ?_
        simp only [pop, St.eval, upd_at, Nat.reduceEqDiff, if_true, if_false, popLoad, loadK, isAggD, Bool.false_eq_true, Tryd.underlying9, sz9, eq_self, g34_0, g36_1]
        refine hM _ _ ?_
        clear hM M
        refine pops_mvg (.inl rfl) rfl rfl (by simp only [upd_at, Nat.reduceEqDiff, if_true, if_false, g34_0, g36_1]) (by simp only [St.eval, upd_at, Nat.reduceEqDiff, if_true, if_false, g34_0, g36_1] <;> rfl) ?_
        refine pops_do rfl rfl (by simp only [upd_at, Nat.reduceEqDiff, if_true, if_false, g34_0, g36_1]) fun M hM => ?_
        simp only [pop, St.eval, upd_at, Nat.reduceEqDiff, if_true, if_false, popIndex, Tryd.underlying9, eq_self, str_get, g34_0, g36_1, hx, Int.toNat_natCast]
        refine ⟨Int.natCast_nonneg _, hM _ _ ?_⟩
        clear hM M
        refine pops_do rfl rfl (by simp only [upd_at, Nat.reduceEqDiff, if_true, if_false, g34_0, g36_1]) fun M hM => ?_
        simp only [pop, St.eval, constSlot, upd_at, Nat.reduceEqDiff, if_true, if_false, popBin, binK, intK, eq_self, true_and, g34_0, g36_1, u8_44]
        refine hM _ _ ?_
        clear hM M
        refine pops_do rfl rfl (by simp only [upd_at, Nat.reduceEqDiff, if_true, if_false, g34_0, g36_1]) fun M hM => ?_
        simp only [pop, St.eval, constSlot, upd_at, Nat.reduceEqDiff, if_true, if_false, true_implies, false_implies, Bool.true_eq_false, and_true, g34_0, g36_1]
        refine hM _ _ ?_
        clear hM M
        exact pops_done (hJ31 _ (wk_same (wk_any ((wk_any ((wk_any ((wk_any ((wk_any (Wk.refl _ _))))))))))))
       ·skip
        intro g36_1 J31 hJ31
        simp only [List.take_succ_cons, List.take_zero]
        simp only [anyAt_cons, anyAt_nil] at hJ31
        refine pops_off (b := false) rfl rfl (by simp only [upd_at, Nat.reduceEqDiff, if_true, if_false, g34_0, g36_1]) (by decide) ?_
        refine pops_off (b := false) rfl rfl (by simp only [upd_at, Nat.reduceEqDiff, if_true, if_false, g34_0, g36_1]) (by decide) ?_
        refine pops_off (b := false) rfl rfl (by simp only [upd_at, Nat.reduceEqDiff, if_true, if_false, g34_0, g36_1]) (by decide) ?_
        refine pops_off (b := false) rfl rfl (by simp only [upd_at, Nat.reduceEqDiff, if_true, if_false, g34_0, g36_1]) (by decide) ?_
        refine pops_off (b := false) rfl rfl (by simp only [upd_at, Nat.reduceEqDiff, if_true, if_false, g34_0, g36_1]) (by decide) ?_
        refine pops_do rfl rfl (by simp only [upd_at, Nat.reduceEqDiff, if_true, if_false, g34_0, g36_1]) fun M hM => ?_
        simp only [pop, St.eval, constSlot, upd_at, Nat.reduceEqDiff, if_true, if_false, true_implies, false_implies, Bool.false_eq_true, true_and, g34_0, g36_1]
        refine hM _ _ ?_
        clear hM M
        exact pops_done (hJ31 _ (wk_same (wk_any ((wk_any ((wk_any ((wk_any ((wk_any (Wk.refl _ _))))))))))))
       simp only [List.drop_succ_cons, List.drop_zero, anyAt_cons, anyAt_nil]
       refine pops_to rfl fun M hM => ?_
       simp only [pop, St.eval, constSlot, upd_at, Nat.reduceEqDiff, if_true, if_false, true_implies, false_implies, Bool.false_eq_true, true_and, g34_0]
       refine hM _ _ ?_
       clear hM M
       exact pops_done (hJ30 _ (wk_same (wk_any ((wk_any ((wk_any ((wk_any ((wk_any ((wk_any ((wk_any ((wk_any (Wk.refl _ _))))))))))))))))))
      ·skip
       intro g34_0 J30 hJ30
       simp only [List.take_succ_cons, List.take_zero]
       simp only [anyAt_cons, anyAt_nil] at hJ30
       refine pops_off (b := true) rfl rfl (by simp only [upd_at, Nat.reduceEqDiff, if_true, if_false, g34_0]) (by decide) ?_
       refine pops_off (b := true) rfl rfl (by simp only [upd_at, Nat.reduceEqDiff, if_true, if_false, g34_0]) (by decide) ?_
       refine pops_off0 rfl rfl (by simp only [upd_at, Nat.reduceEqDiff, if_true, if_false, g34_0]) ?_
       refine pops_off0 rfl rfl (by simp only [upd_at, Nat.reduceEqDiff, if_true, if_false, g34_0]) ?_
       refine pops_off0 rfl rfl (by simp only [upd_at, Nat.reduceEqDiff, if_true, if_false, g34_0]) ?_
       refine pops_off0 rfl rfl (by simp only [upd_at, Nat.reduceEqDiff, if_true, if_false, g34_0]) ?_
       refine pops_off0 rfl rfl (by simp only [upd_at, Nat.reduceEqDiff, if_true, if_false, g34_0]) ?_
       refine pops_off (b := true) rfl rfl (by simp only [upd_at, Nat.reduceEqDiff, if_true, if_false, g34_0]) (by decide) ?_
       refine pops_to rfl fun M hM => ?_
       simp only [pop, St.eval, constSlot, upd_at, Nat.reduceEqDiff, if_true, if_false, true_implies, false_implies, Bool.true_eq_false, and_true, g34_0]
       refine hM _ _ ?_
       clear hM M
       exact pops_done (hJ30 _ (wk_same (wk_any ((wk_any ((wk_any ((wk_any ((wk_any ((wk_any ((wk_any ((wk_any (Wk.refl _ _))))))))))))))))))
      simp only [List.drop_succ_cons, List.drop_zero, anyAt_cons, anyAt_nil]
      refine pops_done (hR29 _ ?_)
      clear hR29 R29
      try simp only [thenK]
      refine hN28 _ ?_
      clear hN28 N28
      refine pwp_cond (by simp only [St.eval, upd_at, Nat.reduceEqDiff, if_true, if_false] <;> rfl) (fun c43 => ?_) (fun c43 => ?_)
      ·skip
       rw [ix_has, escB_ref] at c43
       rw [if_pos c43] at hes
       refine pwp_reg fun R32 hR32 => ?_
       refine pops_mv (.inl rfl) rfl (by simp only [St.eval, upd_at, Nat.reduceEqDiff, if_false, e1_5] <;> rfl) ?_
       refine pops_to rfl fun M hM => ?_
       simp only [pop, St.eval, constSlot, upd_at, Nat.reduceEqDiff, if_true, if_false, popBin, binK, strK, eq_self, str_size, str_app]
       refine ⟨by first | omega | (simp only [List.length_append, List.length_cons, List.length_nil]; omega), hM _ _ ?_⟩
       clear hM M
       refine pops_mv (.inr rfl) rfl (by simp only [St.eval, upd_at, Nat.reduceEqDiff, if_true, if_false] <;> rfl) ?_
       refine pops_done (hR32 _ ?_)
       clear hR32 R32
       try simp only [thenK]
       refine hN27 _ ?_
       clear hN27 N27
       refine pwp_reg fun R33 hR33 => ?_
       refine pops_mv (.inl rfl) rfl (by simp only [St.eval, upd_at, Nat.reduceEqDiff, if_true, if_false, e1_5] <;> rfl) ?_
       refine pops_to rfl fun M hM => ?_
       simp only [pop, St.eval, upd_at, Nat.reduceEqDiff, if_false, popFieldAddr, fieldOf, List.drop_succ_cons, List.drop_zero, List.getElem?_toArray, List.getElem?_cons_zero, List.getElem?_cons_succ, Tryd.underlying64, sz9, e1_7]
       refine ⟨⟨_, rfl⟩, hM _ _ ?_⟩
       clear hM M
       refine pops_to rfl fun M hM => ?_
       simp only [pop, St.eval, upd_at, Nat.reduceEqDiff, if_true, if_false, popLoad, loadK, isAggD, Bool.false_eq_true, Tryd.underlying9, sz9, eq_self]
       refine hM _ _ ?_
       clear hM M
       refine pops_mv (.inl rfl) rfl (by simp only [St.eval, upd_at, Nat.reduceEqDiff, if_true, if_false] <;> rfl) ?_
       refine pops_mv (.inl rfl) rfl (by simp only [St.eval, upd_at, Nat.reduceEqDiff, if_true, if_false] <;> rfl) ?_
       refine pops_to rfl fun M hM => ?_
       simp only [pop, St.eval, constSlot, upd_at, Nat.reduceEqDiff, if_true, if_false, popBin, binK, intK, eq_self, true_and, hw51]
       refine hM _ _ ?_
       clear hM M
       refine pops_to rfl fun M hM => ?_
       simp only [pop, St.eval, upd_at, Nat.reduceEqDiff, if_true, if_false, popSlice, boundOf, Option.map_some, Tryd.underlying9, eq_self, str_size, str_cut, Int.toNat_natCast, hcut]
       refine ⟨Int.natCast_nonneg _, by omega, by omega, hM _ _ ?_⟩
       clear hM M
       refine pops_to rfl fun M hM => ?_
       simp only [pop, St.eval, upd_at, Nat.reduceEqDiff, if_true, if_false, popBin, binK, strK, eq_self, str_size, str_app]
       refine ⟨by first | omega | (simp only [List.length_append, List.length_cons, List.length_nil]; omega), hM _ _ ?_⟩
       clear hM M
       refine pops_mv (.inr rfl) rfl (by simp only [St.eval, upd_at, Nat.reduceEqDiff, if_true, if_false] <;> rfl) ?_
       refine pops_done (hR33 _ ?_)
       clear hR33 R33
       try simp only [blockK, thenK]
       try simp only [thenK, scopeK]
       refine hN24 _ ?_
       clear hN24 N24
       refine pwp_reg fun R34 hR34 => ?_
       refine pops_to rfl fun M hM => ?_
       simp only [pop, St.eval, constSlot, upd_at, Nat.reduceEqDiff, if_false, popBin, binK, intK, eq_self, true_and, e1_25]
       refine hM _ _ ?_
       clear hM M
       refine pops_mv (.inl rfl) rfl (by simp only [St.eval, upd_at, Nat.reduceEqDiff, if_true, if_false] <;> rfl) ?_
       refine pops_done (hR34 _ ?_)
       clear hR34 R34
       try simp only [thenK]
       exact ⟨_, by omega, _, .refl _ _, q + 1, rfl, by omega, hKt.trans (Same.keeps s1), by simp only [upd_at, Nat.reduceEqDiff, if_false, e1_0], by simp only [upd_at, Nat.reduceEqDiff, if_false, e1_1], by simp only [upd_at, Nat.reduceEqDiff, if_false, e1_12], by simp only [upd_at, Nat.reduceEqDiff, if_false, e1_13], by simp only [upd_at, Nat.reduceEqDiff, if_false, e1_14], by simp only [upd_at, Nat.reduceEqDiff, if_true, if_false, hes]; simp, by simp only [upd_at, Nat.reduceEqDiff, if_false, e1_7], by simp only [upd_at, Nat.reduceEqDiff, if_false, e1_24], by simp only [upd_at, Nat.reduceEqDiff, if_true, if_false, e1_25]; rw [wrap_succ (by omega)]⟩
      ·skip
       rw [ix_has, escB_ref] at c43
       rw [if_neg (by rw [c43]; decide)] at hes
       refine pwp_skip ?_
       try simp only [thenK]
       refine hN27 _ ?_
       clear hN27 N27
       refine pwp_reg fun R35 hR35 => ?_
       refine pops_mv (.inl rfl) rfl (by simp only [St.eval, upd_at, Nat.reduceEqDiff, if_false, e1_5] <;> rfl) ?_
       refine pops_to rfl fun M hM => ?_
       simp only [pop, St.eval, upd_at, Nat.reduceEqDiff, if_false, popFieldAddr, fieldOf, List.drop_succ_cons, List.drop_zero, List.getElem?_toArray, List.getElem?_cons_zero, List.getElem?_cons_succ, Tryd.underlying64, sz9, e1_7]
       refine ⟨⟨_, rfl⟩, hM _ _ ?_⟩
       clear hM M
       refine pops_to rfl fun M hM => ?_
       simp only [pop, St.eval, upd_at, Nat.reduceEqDiff, if_true, if_false, popLoad, loadK, isAggD, Bool.false_eq_true, Tryd.underlying9, sz9, eq_self]
       refine hM _ _ ?_
       clear hM M
       refine pops_mv (.inl rfl) rfl (by simp only [St.eval, upd_at, Nat.reduceEqDiff, if_true, if_false] <;> rfl) ?_
       refine pops_mv (.inl rfl) rfl (by simp only [St.eval, upd_at, Nat.reduceEqDiff, if_true, if_false] <;> rfl) ?_
       refine pops_to rfl fun M hM => ?_
       simp only [pop, St.eval, constSlot, upd_at, Nat.reduceEqDiff, if_true, if_false, popBin, binK, intK, eq_self, true_and, hw51]
       refine hM _ _ ?_
       clear hM M
       refine pops_to rfl fun M hM => ?_
       simp only [pop, St.eval, upd_at, Nat.reduceEqDiff, if_true, if_false, popSlice, boundOf, Option.map_some, Tryd.underlying9, eq_self, str_size, str_cut, Int.toNat_natCast, hcut]
       refine ⟨Int.natCast_nonneg _, by omega, by omega, hM _ _ ?_⟩
       clear hM M
       refine pops_to rfl fun M hM => ?_
       simp only [pop, St.eval, upd_at, Nat.reduceEqDiff, if_true, if_false, popBin, binK, strK, eq_self, str_size, str_app]
       refine ⟨by first | omega | (simp only [List.length_append, List.length_cons, List.length_nil]; omega), hM _ _ ?_⟩
       clear hM M
       refine pops_mv (.inr rfl) rfl (by simp only [St.eval, upd_at, Nat.reduceEqDiff, if_true, if_false] <;> rfl) ?_
       refine pops_done (hR35 _ ?_)
       clear hR35 R35
       try simp only [blockK, thenK]
       try simp only [thenK, scopeK]
       refine hN24 _ ?_
       clear hN24 N24
       refine pwp_reg fun R36 hR36 => ?_
       refine pops_to rfl fun M hM => ?_
       simp only [pop, St.eval, constSlot, upd_at, Nat.reduceEqDiff, if_false, popBin, binK, intK, eq_self, true_and, e1_25]
       refine hM _ _ ?_
       clear hM M
       refine pops_mv (.inl rfl) rfl (by simp only [St.eval, upd_at, Nat.reduceEqDiff, if_true, if_false] <;> rfl) ?_
       refine pops_done (hR36 _ ?_)
       clear hR36 R36
       try simp only [thenK]
       exact ⟨_, by omega, _, .refl _ _, q + 1, rfl, by omega, hKt.trans (Same.keeps s1), by simp only [upd_at, Nat.reduceEqDiff, if_false, e1_0], by simp only [upd_at, Nat.reduceEqDiff, if_false, e1_1], by simp only [upd_at, Nat.reduceEqDiff, if_false, e1_12], by simp only [upd_at, Nat.reduceEqDiff, if_false, e1_13], by simp only [upd_at, Nat.reduceEqDiff, if_false, e1_14], by simp only [upd_at, Nat.reduceEqDiff, if_true, if_false, hes]; simp, by simp only [upd_at, Nat.reduceEqDiff, if_false, e1_7], by simp only [upd_at, Nat.reduceEqDiff, if_false, e1_24], by simp only [upd_at, Nat.reduceEqDiff, if_true, if_false, e1_25]; rw [wrap_succ (by omega)]⟩
     ·skip
      obtain rfl : q = g.text.length := by have := of_decide_eq_false c26; omega
      rw [List.take_length] at e1_5
      refine pwp_exit ?_
      try simp only [thenK, blockK, if_true, Nat.reduceEqDiff, if_false]
      clear hN23 N23
      try simp only [blockK, scopeK, if_true, Nat.reduceEqDiff, if_false, thenK]
      try simp only [blockK, thenK, scopeK]
      try simp only [blockK, thenK, scopeK]
      try simp only [thenK, scopeK]
      refine hN11 _ ?_
      clear hN11 N11
      refine pwp_reg fun R37 hR37 => ?_
      refine pops_to rfl fun M hM => ?_
      simp only [pop, St.eval, constSlot, upd_at, Nat.reduceEqDiff, if_false, popBin, binK, intK, eq_self, true_and, e1_14]
      refine hM _ _ ?_
      clear hM M
      refine pops_mv (.inl rfl) rfl (by simp only [St.eval, upd_at, Nat.reduceEqDiff, if_true, if_false] <;> rfl) ?_
      refine pops_done (hR37 _ ?_)
      clear hR37 R37
      try simp only [thenK]
      exact ⟨_, by omega, _, .refl _ _, i + 1, rfl, by omega, by first | exact hk9.trans (Same.keeps (Same.refl _)) | exact hKt.trans (Same.keeps (Same.refl _)) | exact hKa.trans (Same.keeps (Same.refl _)), by simp only [upd_at, Nat.reduceEqDiff, if_false, e1_0], by simp only [upd_at, Nat.reduceEqDiff, if_false, e1_1], by simp only [upd_at, Nat.reduceEqDiff, if_false, e1_12], by simp only [upd_at, Nat.reduceEqDiff, if_false, e1_13], by simp only [upd_at, Nat.reduceEqDiff, if_true, if_false]; rw [wrap_succ (by omega)], by first | (simp only [upd_at, Nat.reduceEqDiff, if_false, hst, hsh, e1_5]; done) | (simp only [upd_at, Nat.reduceEqDiff, if_true, if_false, hst, hsh, hjw]; simp; done) | (simp only [upd_at, Nat.reduceEqDiff, if_true, if_false, hst, hsh]; done) | (simp only [upd_at, Nat.reduceEqDiff, if_true, if_false, hst, hsh]; rfl)⟩
   ·skip
    have hk1 : ¬ g.kind = 1 := by simpa using c20
    refine pwp_then fun N38 hN38 => ?_
    refine pwp_reg fun R39 hR39 => ?_
    refine pops_to rfl fun M hM => ?_
    simp only [pop, St.eval, constSlot, upd_at, Nat.reduceEqDiff, if_true, if_false, popBin, binK, intK, eq_self, true_and]
    refine hM _ _ ?_
    clear hM M
    refine pops_mv (.inr rfl) rfl (by simp only [St.eval, upd_at, Nat.reduceEqDiff, if_true, if_false] <;> rfl) ?_
    refine pops_done (hR39 _ ?_)
    clear hR39 R39
    try simp only [thenK]
    refine hN38 _ ?_
    clear hN38 N38
    refine pwp_cond (by simp only [St.eval, upd_at, Nat.reduceEqDiff, if_true, if_false] <;> rfl) (fun c55 => ?_) (fun c55 => ?_)
    ·skip
     have hk : g.kind = 2 := by simpa using c55
     have hsh : shG w g = [63] := by rw [shG_eq]; simp [hk]
     refine pwp_reg fun R40 hR40 => ?_
     refine pops_mv (.inl rfl) rfl (by simp only [St.eval, upd_at, Nat.reduceEqDiff, if_false, e0_5] <;> rfl) ?_
     refine pops_to rfl fun M hM => ?_
     simp only [pop, St.eval, constSlot, upd_at, Nat.reduceEqDiff, if_true, if_false, popBin, binK, strK, eq_self, str_size, str_app]
     refine ⟨by first | omega | (simp only [List.length_cons, List.length_nil]; omega), hM _ _ ?_⟩
     clear hM M
     refine pops_mv (.inr rfl) rfl (by simp only [St.eval, upd_at, Nat.reduceEqDiff, if_true, if_false] <;> rfl) ?_
     refine pops_done (hR40 _ ?_)
     clear hR40 R40
     try simp only [blockK, thenK]
     try simp only [blockK, thenK, scopeK]
     try simp only [thenK, scopeK]
     refine hN11 _ ?_
     clear hN11 N11
     refine pwp_reg fun R41 hR41 => ?_
     refine pops_to rfl fun M hM => ?_
     simp only [pop, St.eval, constSlot, upd_at, Nat.reduceEqDiff, if_false, popBin, binK, intK, eq_self, true_and, e0_14]
     refine hM _ _ ?_
     clear hM M
     refine pops_mv (.inl rfl) rfl (by simp only [St.eval, upd_at, Nat.reduceEqDiff, if_true, if_false] <;> rfl) ?_
     refine pops_done (hR41 _ ?_)
     clear hR41 R41
     try simp only [thenK]
     exact ⟨_, by omega, _, .refl _ _, i + 1, rfl, by omega, by first | exact hk9.trans (Same.keeps sv14) | exact hKt.trans (Same.keeps sv14) | exact hKa.trans (Same.keeps sv14), by simp only [upd_at, Nat.reduceEqDiff, if_false, e0_0], by simp only [upd_at, Nat.reduceEqDiff, if_false, e0_1], by simp only [upd_at, Nat.reduceEqDiff, if_false, e0_12], by simp only [upd_at, Nat.reduceEqDiff, if_false, e0_13], by simp only [upd_at, Nat.reduceEqDiff, if_true, if_false, e0_14]; rw [wrap_succ (by omega)], by first | (simp only [upd_at, Nat.reduceEqDiff, if_true, if_false, hst, hsh, e1_5]; done) | (simp only [upd_at, Nat.reduceEqDiff, if_true, if_false, hst, hsh, hjw]; simp; done) | (simp only [upd_at, Nat.reduceEqDiff, if_true, if_false, hst, hsh]; done) | (simp only [upd_at, Nat.reduceEqDiff, if_true, if_false, hst, hsh]; rfl)⟩
    ·skip
     have hk2 : ¬ g.kind = 2 := by simpa using c55
     refine pwp_then fun N42 hN42 => ?_
     refine pwp_reg fun R43 hR43 => ?_
     refine pops_to rfl fun M hM => ?_
     simp only [pop, St.eval, constSlot, upd_at, Nat.reduceEqDiff, if_true, if_false, popBin, binK, intK, eq_self, true_and]
     refine hM _ _ ?_
     clear hM M
     refine pops_mv (.inr rfl) rfl (by simp only [St.eval, upd_at, Nat.reduceEqDiff, if_true, if_false] <;> rfl) ?_
     refine pops_done (hR43 _ ?_)
     clear hR43 R43
     try simp only [thenK]
     refine hN42 _ ?_
     clear hN42 N42
     refine pwp_cond (by simp only [St.eval, upd_at, Nat.reduceEqDiff, if_true, if_false] <;> rfl) (fun c59 => ?_) (fun c59 => ?_)
     ·skip
      have hk : g.kind = 3 := by simpa using c59
      have hsh : shG w g = [42] := by rw [shG_eq]; simp [hk]
      refine pwp_reg fun R44 hR44 => ?_
      refine pops_mv (.inl rfl) rfl (by simp only [St.eval, upd_at, Nat.reduceEqDiff, if_false, e0_5] <;> rfl) ?_
      refine pops_to rfl fun M hM => ?_
      simp only [pop, St.eval, constSlot, upd_at, Nat.reduceEqDiff, if_true, if_false, popBin, binK, strK, eq_self, str_size, str_app]
      refine ⟨by first | omega | (simp only [List.length_cons, List.length_nil]; omega), hM _ _ ?_⟩
      clear hM M
      refine pops_mv (.inr rfl) rfl (by simp only [St.eval, upd_at, Nat.reduceEqDiff, if_true, if_false] <;> rfl) ?_
      refine pops_done (hR44 _ ?_)
      clear hR44 R44
      try simp only [blockK, thenK]
      try simp only [blockK, thenK, scopeK]
      try simp only [thenK, scopeK]
      refine hN11 _ ?_
      clear hN11 N11
      refine pwp_reg fun R45 hR45 => ?_
      refine pops_to rfl fun M hM => ?_
      simp only [pop, St.eval, constSlot, upd_at, Nat.reduceEqDiff, if_false, popBin, binK, intK, eq_self, true_and, e0_14]
      refine hM _ _ ?_
      clear hM M
      refine pops_mv (.inl rfl) rfl (by simp only [St.eval, upd_at, Nat.reduceEqDiff, if_true, if_false] <;> rfl) ?_
      refine pops_done (hR45 _ ?_)
      clear hR45 R45
      try simp only [thenK]
      exact ⟨_, by omega, _, .refl _ _, i + 1, rfl, by omega, by first | exact hk9.trans (Same.keeps sv14) | exact hKt.trans (Same.keeps sv14) | exact hKa.trans (Same.keeps sv14), by simp only [upd_at, Nat.reduceEqDiff, if_false, e0_0], by simp only [upd_at, Nat.reduceEqDiff, if_false, e0_1], by simp only [upd_at, Nat.reduceEqDiff, if_false, e0_12], by simp only [upd_at, Nat.reduceEqDiff, if_false, e0_13], by simp only [upd_at, Nat.reduceEqDiff, if_true, if_false, e0_14]; rw [wrap_succ (by omega)], by first | (simp only [upd_at, Nat.reduceEqDiff, if_true, if_false, hst, hsh, e1_5]; done) | (simp only [upd_at, Nat.reduceEqDiff, if_true, if_false, hst, hsh, hjw]; simp; done) | (simp only [upd_at, Nat.reduceEqDiff, if_true, if_false, hst, hsh]; done) | (simp only [upd_at, Nat.reduceEqDiff, if_true, if_false, hst, hsh]; rfl)⟩
     ·skip
      have hk3 : ¬ g.kind = 3 := by simpa using c59
      refine pwp_then fun N46 hN46 => ?_
      refine pwp_reg fun R47 hR47 => ?_
      refine pops_to rfl fun M hM => ?_
      simp only [pop, St.eval, constSlot, upd_at, Nat.reduceEqDiff, if_true, if_false, popBin, binK, intK, eq_self, true_and]
      refine hM _ _ ?_
      clear hM M
      refine pops_mv (.inr rfl) rfl (by simp only [St.eval, upd_at, Nat.reduceEqDiff, if_true, if_false] <;> rfl) ?_
      refine pops_done (hR47 _ ?_)
      clear hR47 R47
      try simp only [thenK]
      refine hN46 _ ?_
      clear hN46 N46
      refine pwp_cond (by simp only [St.eval, upd_at, Nat.reduceEqDiff, if_true, if_false] <;> rfl) (fun c63 => ?_) (fun c63 => ?_)
      ·skip
       have hk : g.kind = 4 := by simpa using c63
       have hsh : shG w g = [42, 42] := by rw [shG_eq]; simp [hk]
       refine pwp_reg fun R48 hR48 => ?_
       refine pops_mv (.inl rfl) rfl (by simp only [St.eval, upd_at, Nat.reduceEqDiff, if_false, e0_5] <;> rfl) ?_
       refine pops_to rfl fun M hM => ?_
       simp only [pop, St.eval, constSlot, upd_at, Nat.reduceEqDiff, if_true, if_false, popBin, binK, strK, eq_self, str_size, str_app]
       refine ⟨by first | omega | (simp only [List.length_cons, List.length_nil]; omega), hM _ _ ?_⟩
       clear hM M
       refine pops_mv (.inr rfl) rfl (by simp only [St.eval, upd_at, Nat.reduceEqDiff, if_true, if_false] <;> rfl) ?_
       refine pops_done (hR48 _ ?_)
       clear hR48 R48
       try simp only [blockK, thenK]
       try simp only [blockK, thenK, scopeK]
       try simp only [thenK, scopeK]
       refine hN11 _ ?_
       clear hN11 N11
       refine pwp_reg fun R49 hR49 => ?_
       refine pops_to rfl fun M hM => ?_
       simp only [pop, St.eval, constSlot, upd_at, Nat.reduceEqDiff, if_false, popBin, binK, intK, eq_self, true_and, e0_14]
       refine hM _ _ ?_
       clear hM M
       refine pops_mv (.inl rfl) rfl (by simp only [St.eval, upd_at, Nat.reduceEqDiff, if_true, if_false] <;> rfl) ?_
       refine pops_done (hR49 _ ?_)
       clear hR49 R49
       try simp only [thenK]
       exact ⟨_, by omega, _, .refl _ _, i + 1, rfl, by omega, by first | exact hk9.trans (Same.keeps sv14) | exact hKt.trans (Same.keeps sv14) | exact hKa.trans (Same.keeps sv14), by simp only [upd_at, Nat.reduceEqDiff, if_false, e0_0], by simp only [upd_at, Nat.reduceEqDiff, if_false, e0_1], by simp only [upd_at, Nat.reduceEqDiff, if_false, e0_12], by simp only [upd_at, Nat.reduceEqDiff, if_false, e0_13], by simp only [upd_at, Nat.reduceEqDiff, if_true, if_false, e0_14]; rw [wrap_succ (by omega)], by first | (simp only [upd_at, Nat.reduceEqDiff, if_true, if_false, hst, hsh, e1_5]; done) | (simp only [upd_at, Nat.reduceEqDiff, if_true, if_false, hst, hsh, hjw]; simp; done) | (simp only [upd_at, Nat.reduceEqDiff, if_true, if_false, hst, hsh]; done) | (simp only [upd_at, Nat.reduceEqDiff, if_true, if_false, hst, hsh]; rfl)⟩
      ·skip
       have hk4 : ¬ g.kind = 4 := by simpa using c63
       refine pwp_then fun N50 hN50 => ?_
       refine pwp_reg fun R51 hR51 => ?_
       refine pops_to rfl fun M hM => ?_
       simp only [pop, St.eval, constSlot, upd_at, Nat.reduceEqDiff, if_true, if_false, popBin, binK, intK, eq_self, true_and]
       refine hM _ _ ?_
       clear hM M
       refine pops_mv (.inr rfl) rfl (by simp only [St.eval, upd_at, Nat.reduceEqDiff, if_true, if_false] <;> rfl) ?_
       refine pops_done (hR51 _ ?_)
       clear hR51 R51
       try simp only [thenK]
       refine hN50 _ ?_
       clear hN50 N50
       refine pwp_cond (by simp only [St.eval, upd_at, Nat.reduceEqDiff, if_true, if_false] <;> rfl) (fun c67 => ?_) (fun c67 => ?_)
       ·skip
        have hk : g.kind = 5 := by simpa using c67
        have hsh : shG w g = showS g.neg g.ranges := by rw [shG_eq]; simp [hk]
        refine pwp_reg fun R52 hR52 => ?_
        refine pops_mv (.inl rfl) rfl (by simp only [St.eval, upd_at, Nat.reduceEqDiff, if_false, e0_5] <;> rfl) ?_
        refine pops_to rfl fun M hM => ?_
        simp only [pop, St.eval, upd_at, Nat.reduceEqDiff, if_true, if_false, List.length_cons, List.length_nil, Nat.zero_add, Nat.reduceAdd, Nat.reduceLeDiff, List.take_succ_cons, List.take_nil, popLoad, loadK, isAggD, Tryd.underlying64, sz64, eq_self, true_and]
        refine hM _ _ ?_
        clear hM M
        refine pops_to rfl fun M hM => ?_
        simp only [pop, St.eval, constSlot, upd_at, Nat.reduceEqDiff, if_true, if_false, popCall, List.map_nil, svs, List.mapM_cons, List.mapM_nil, Option.bind_eq_bind, Option.bind_some, Option.pure_def, List.append_nil]
        refine PFun.use (showSet_fun W0 g hgr (by omega)) fun h2 s2 => hM _ _ ?_
        replace s2 := Same.trans sv14 s2
        clear hM M
        refine pops_to rfl fun M hM => ?_
        simp only [pop, St.eval, upd_at, Nat.reduceEqDiff, if_true, if_false, popBin, binK, strK, eq_self, str_size, str_app]
        refine ⟨by first | omega | (simp only [List.length_append, List.length_take, List.length_cons, List.length_nil]; omega), hM _ _ ?_⟩
        clear hM M
        refine pops_mv (.inr rfl) rfl (by simp only [St.eval, upd_at, Nat.reduceEqDiff, if_true, if_false] <;> rfl) ?_
        refine pops_done (hR52 _ ?_)
        clear hR52 R52
        try simp only [blockK, thenK]
        try simp only [blockK, thenK, scopeK]
        try simp only [thenK, scopeK]
        refine hN11 _ ?_
        clear hN11 N11
        refine pwp_reg fun R53 hR53 => ?_
        refine pops_to rfl fun M hM => ?_
        simp only [pop, St.eval, constSlot, upd_at, Nat.reduceEqDiff, if_false, popBin, binK, intK, eq_self, true_and, e0_14]
        refine hM _ _ ?_
        clear hM M
        refine pops_mv (.inl rfl) rfl (by simp only [St.eval, upd_at, Nat.reduceEqDiff, if_true, if_false] <;> rfl) ?_
        refine pops_done (hR53 _ ?_)
        clear hR53 R53
        try simp only [thenK]
        exact ⟨_, by omega, _, .refl _ _, i + 1, rfl, by omega, by first | exact hk9.trans (Same.keeps s2) | exact hKt.trans (Same.keeps s2) | exact hKa.trans (Same.keeps s2), by simp only [upd_at, Nat.reduceEqDiff, if_false, e0_0], by simp only [upd_at, Nat.reduceEqDiff, if_false, e0_1], by simp only [upd_at, Nat.reduceEqDiff, if_false, e0_12], by simp only [upd_at, Nat.reduceEqDiff, if_false, e0_13], by simp only [upd_at, Nat.reduceEqDiff, if_true, if_false, e0_14]; rw [wrap_succ (by omega)], by first | (simp only [upd_at, Nat.reduceEqDiff, if_true, if_false, hst, hsh, e1_5]; done) | (simp only [upd_at, Nat.reduceEqDiff, if_true, if_false, hst, hsh, hjw]; simp; done) | (simp only [upd_at, Nat.reduceEqDiff, if_true, if_false, hst, hsh]; done) | (simp only [upd_at, Nat.reduceEqDiff, if_true, if_false, hst, hsh]; rfl)⟩
       ·skip
        have hk5 : ¬ g.kind = 5 := by simpa using c67
        refine pwp_then fun N54 hN54 => ?_
        refine pwp_reg fun R55 hR55 => ?_
        refine pops_to rfl fun M hM => ?_
        simp only [pop, St.eval, constSlot, upd_at, Nat.reduceEqDiff, if_true, if_false, popBin, binK, intK, eq_self, true_and]
        refine hM _ _ ?_
        clear hM M
        refine pops_mv (.inr rfl) rfl (by simp only [St.eval, upd_at, Nat.reduceEqDiff, if_true, if_false] <;> rfl) ?_
        refine pops_done (hR55 _ ?_)
        clear hR55 R55
        try simp only [thenK]
        refine hN54 _ ?_
        clear hN54 N54
        refine pwp_cond (by simp only [St.eval, upd_at, Nat.reduceEqDiff, if_true, if_false] <;> rfl) (fun c73 => ?_) (fun c73 => ?_)
        ·skip
         have hk : g.kind = 6 := by simpa using c73
         have hjw := join_ways (form_ways hfm hk)
         have hsh : shG w g = shW true g.ways ++ [125] := by rw [shG_eq]; simp [hk]
         have hjl : (Lib.join (g.ways.map (shL true)) [44]).length + 1 ≤ 6 * wW g.ways := by
           rw [hjw, List.length_cons] at hswl; exact hswl
         refine pwp_then fun N56 hN56 => ?_
         refine pwp_reg fun R57 hR57 => ?_
         refine pops_mv (.inr rfl) rfl (by simp only [St.eval, constSlot] <;> rfl) ?_
         refine pops_done (hR57 _ ?_)
         clear hR57 R57
         try simp only [thenK]
         refine hN56 _ ?_
         clear hN56 N56
         refine pwp_then fun N58 hN58 => ?_
         refine pwp_then fun N59 hN59 => ?_
         refine pwp_reg fun R60 hR60 => ?_
         refine pops_to rfl fun M hM => ?_
         simp only [pop, St.eval, upd_at, Nat.reduceEqDiff, if_true, if_false, popFieldAddr, fieldOf, List.drop_succ_cons, List.drop_zero, List.getElem?_toArray, List.getElem?_cons_zero, List.getElem?_cons_succ, Tryd.underlying64, sz62]
         refine ⟨⟨_, rfl⟩, hM _ _ ?_⟩
         clear hM M
         refine pops_to rfl fun M hM => ?_
         simp only [pop, St.eval, upd_at, Nat.reduceEqDiff, if_true, if_false, popLoad, loadK, isAggD, Bool.false_eq_true, Tryd.underlying62, sz62, eq_self]
         refine hM _ _ ?_
         clear hM M
         refine pops_to rfl fun M hM => ?_
         simp only [pop, St.eval, upd_at, Nat.reduceEqDiff, if_true, if_false, popCall, List.map_cons, List.map_nil, popBuiltin, popLen, lenOfSlot, Tryd.underlying62, eq_self, encW_len]
         refine hM _ _ ?_
         clear hM M
         refine pops_mv (.inl rfl) rfl (by simp only [St.eval, constSlot] <;> rfl) ?_
         refine pops_done (hR60 _ ?_)
         clear hR60 R60
         try simp only [thenK]
         refine hN59 _ ?_
         clear hN59 N59
         refine pwp_block ?_
         refine pwp_loop (fun k σ => ∃ (j : Nat), ∃ (sl : Slot), (k = g.ways.length - j) ∧ (j ≤ g.ways.length) ∧ (Keeps h σ.hp ∧ RowIs 9 1 h σ.hp sl (pstrs ((g.ways.take j).map (shL true)))) ∧ (σ.env 0 = .sv (.one (.ro false 5 (encL l)))) ∧ (σ.env 1 = .sv (.one (pbool w))) ∧ (σ.env 12 = .sv (.one (.ro false 5 (encL l)))) ∧ (σ.env 13 = .sv (.one (pint (l.length : Nat)))) ∧ (σ.env 14 = .sv (.one (pint (i : Nat)))) ∧ (σ.env 5 = .sv (.one (pstr (shL w (l.take i))))) ∧ (σ.env 7 = .sv (.one (.rop [pint g.kind, pstr g.text, pbool g.neg, .ro false 2 (rngPV g.ranges), .ro false 1 (encW g.ways)]))) ∧ (σ.env 9 = sl) ∧ (σ.env 76 = .sv (.one (.ro false 1 (encW g.ways)))) ∧ (σ.env 77 = .sv (.one (pint (g.ways.length : Nat)))) ∧ (σ.env 78 = .sv (.one (pint (j : Nat))))) _ ⟨_, .refl _ _, 0, (.sv (.one (.val (.slice none 0 0)))), rfl, ?_⟩ ?_
         · exact ⟨Nat.zero_le _, ⟨hKa.trans (Same.keeps sv14), .nil _ _ _ _⟩, by simp only [upd_at, Nat.reduceEqDiff, if_false, e0_0], by simp only [upd_at, Nat.reduceEqDiff, if_false, e0_1], by simp only [upd_at, Nat.reduceEqDiff, if_false, e0_12], by simp only [upd_at, Nat.reduceEqDiff, if_false, e0_13], by simp only [upd_at, Nat.reduceEqDiff, if_false, e0_14], by simp only [upd_at, Nat.reduceEqDiff, if_false, e0_5], by simp only [upd_at, Nat.reduceEqDiff, if_true, if_false], by simp only [upd_at, Nat.reduceEqDiff, if_true, if_false], by simp only [upd_at, Nat.reduceEqDiff, if_true, if_false], by first | rfl | (simp only [upd_at, Nat.reduceEqDiff, if_true, if_false]; rfl), by first | rfl | (simp only [upd_at, Nat.reduceEqDiff, if_true, if_false]; rfl)⟩
         ·rintro k ⟨e, hp2⟩ ⟨j, sl, hk2, hx2_0, sl2, e2_0, e2_1, e2_12, e2_13, e2_14, e2_5, e2_7, e2_9, e2_76, e2_77, e2_78⟩
          simp only at sl2 e2_0 e2_1 e2_12 e2_13 e2_14 e2_5 e2_7 e2_9 e2_76 e2_77 e2_78
          obtain ⟨hKw, ho⟩ := sl2
          refine pwp_hpok fun hok2 => ?_
          simp only at hok2
          refine pwp_then fun N61 hN61 => ?_
          refine pwp_reg fun R62 hR62 => ?_
          refine pops_to rfl fun M hM => ?_
          simp only [pop, St.eval, popBin, binK, intK, eq_self, true_and, e2_77, e2_78]
          refine hM _ _ ?_
          clear hM M
          refine pops_done (hR62 _ ?_)
          clear hR62 R62
          try simp only [thenK]
          refine hN61 _ ?_
          clear hN61 N61
          refine pwp_then fun N63 hN63 => ?_
          refine pwp_cond (by simp only [St.eval, upd_at, if_true] <;> rfl) (fun c79 => ?_) (fun c79 => ?_)
          ·skip
           have hj : j < g.ways.length := by have := of_decide_eq_true c79; omega
           obtain ⟨v, hv⟩ : ∃ v, g.ways[j]? = some v := ⟨_, List.getElem?_eq_getElem hj⟩
           have hgetw := encW_at hv
           have hlt := way_lt hg hv
           have hv0 := chkW_ok hcw v (List.mem_of_getElem? hv)
           refine pwp_skip ?_
           try simp only [thenK]
           refine hN63 _ ?_
           clear hN63 N63
           refine pwp_then fun N64 hN64 => ?_
           refine pwp_block ?_
           refine pwp_then fun N65 hN65 => ?_
           refine pwp_reg fun R66 hR66 => ?_
           refine pops_to rfl fun M hM => ?_
           simp only [pop, St.eval, upd_at, Nat.reduceEqDiff, if_false, popIndexAddr, Tryd.underlying62, sz22, eq_self, true_and, e2_76, e2_78, hgetw, Int.toNat_natCast]
           refine ⟨Int.natCast_nonneg _, hM _ _ ?_⟩
           clear hM M
           refine pops_to rfl fun M hM => ?_
           simp only [pop, St.eval, upd_at, Nat.reduceEqDiff, if_true, if_false, popLoad, loadK, isAggD, Bool.false_eq_true, Tryd.underlying22, sz22, eq_self]
           refine hM _ _ ?_
           clear hM M
           refine pops_mv (.inr rfl) rfl (by simp only [St.eval, upd_at, Nat.reduceEqDiff, if_true, if_false] <;> rfl) ?_
           refine pops_done (hR66 _ ?_)
           clear hR66 R66
           try simp only [thenK]
           refine hN65 _ ?_
           clear hN65 N65
           refine pwp_reg fun R67 hR67 => ?_
           refine pops_mv (.inl rfl) rfl (by simp only [St.eval, upd_at, Nat.reduceEqDiff, if_false, e2_9] <;> rfl) ?_
           refine pops_mv (.inl rfl) rfl (by simp only [St.eval, upd_at, Nat.reduceEqDiff, if_true, if_false] <;> rfl) ?_
           refine pops_to rfl fun M hM => ?_
           simp only [pop, St.eval, constSlot, upd_at, Nat.reduceEqDiff, if_true, if_false, popCall, List.map_nil, svs, List.mapM_cons, List.mapM_nil, Option.bind_eq_bind, Option.bind_some, Option.pure_def, List.append_nil]
           refine PFun.use (ih v hlt (by omega) false hv0 true) fun h3 s3 => hM _ _ ?_
           replace s3 := Same.trans (Same.refl _) s3
           clear hM M
           refine pops_to rfl fun M hM => ?_
           simp only [pop, St.eval, constSlot, upd_at, Nat.reduceEqDiff, if_true, if_false, popBuildSlice, slotCells, List.map_cons, List.map_nil, List.mapM_cons, List.mapM_nil, Option.bind_eq_bind, Option.bind_some, Option.pure_def, Tryd.underlying32, sz9, ze9, eq_self]
           refine ⟨by decide, by decide, rfl, rfl, by simp, by decide, rfl, hM _ _ ?_⟩
           clear hM M
           refine pops_to rfl fun M hM => ?_
           simp only [pop, St.eval, upd_at, Nat.reduceEqDiff, if_true, if_false, popCall, List.map_cons, List.map_nil, popBuiltin, eq_self]
           refine row_app (ys := [[pstr (shL true v)]]) hb Tryd.underlying32 sz9 by9 ze9 rfl (by decide) (ho.same s3) (hKw.trans (Same.keeps s3)) rfl (.inr rfl) ⟨by simp only [List.length_map, List.length_take, List.length_cons, List.length_nil]; omega, by simp only [List.length_map, List.length_take, List.length_cons, List.length_nil]; omega⟩ fun sl2 hp2 ho2 hk2 => hM _ _ ?_
           clear hM M
           refine pops_mv (.inr rfl) rfl (by simp only [St.eval, upd_at, Nat.reduceEqDiff, if_true, if_false] <;> rfl) ?_
           refine pops_done (hR67 _ ?_)
           clear hR67 R67
           try simp only [blockK, thenK]
           try simp only [thenK, scopeK]
           refine hN64 _ ?_
           clear hN64 N64
           refine pwp_reg fun R68 hR68 => ?_
           refine pops_to rfl fun M hM => ?_
           simp only [pop, St.eval, constSlot, upd_at, Nat.reduceEqDiff, if_false, popBin, binK, intK, eq_self, true_and, e2_78]
           refine hM _ _ ?_
           clear hM M
           refine pops_mv (.inl rfl) rfl (by simp only [St.eval, upd_at, Nat.reduceEqDiff, if_true, if_false] <;> rfl) ?_
           refine pops_done (hR68 _ ?_)
           clear hR68 R68
           try simp only [thenK]
           exact ⟨_, by omega, _, .refl _ _, j + 1, sl2, rfl, by omega, ⟨hk2, by rw [take_at hv]; simpa using ho2⟩, by simp only [upd_at, Nat.reduceEqDiff, if_false, e2_0], by simp only [upd_at, Nat.reduceEqDiff, if_false, e2_1], by simp only [upd_at, Nat.reduceEqDiff, if_false, e2_12], by simp only [upd_at, Nat.reduceEqDiff, if_false, e2_13], by simp only [upd_at, Nat.reduceEqDiff, if_false, e2_14], by simp only [upd_at, Nat.reduceEqDiff, if_false, e2_5], by simp only [upd_at, Nat.reduceEqDiff, if_false, e2_7], by simp only [upd_at, Nat.reduceEqDiff, if_true, if_false, e2_9], by simp only [upd_at, Nat.reduceEqDiff, if_false, e2_76], by simp only [upd_at, Nat.reduceEqDiff, if_false, e2_77], by simp only [upd_at, Nat.reduceEqDiff, if_true, if_false, e2_78]; rw [wrap_succ (by omega)]⟩
          ·skip
           obtain rfl : j = g.ways.length := by have := of_decide_eq_false c79; omega
           rw [List.take_length] at ho
           refine pwp_exit ?_
           try simp only [thenK, blockK, if_true, Nat.reduceEqDiff, if_false]
           clear hN63 N63
           try simp only [blockK, scopeK, if_true, Nat.reduceEqDiff, if_false, thenK]
           try simp only [thenK, scopeK]
           refine hN58 _ ?_
           clear hN58 N58
           refine pwp_freezeRow 9 (by simp only [upd_at, Nat.reduceEqDiff, if_false, e2_9]) ho hb hKw fun hp9 hk9 => ?_
           refine pwp_reg fun R69 hR69 => ?_
           refine pops_mv (.inl rfl) rfl (by simp only [St.eval, upd_at, Nat.reduceEqDiff, if_false, e2_5] <;> rfl) ?_
           refine pops_mv (.inl rfl) rfl (by simp only [St.eval, upd_at, Nat.reduceEqDiff, if_true, if_false, e2_9] <;> rfl) ?_
           refine pops_to rfl fun M hM => ?_
           simp only [pop, St.eval, constSlot, upd_at, Nat.reduceEqDiff, if_true, if_false, popCall, List.map_nil, svs, List.mapM_cons, List.mapM_nil, Option.bind_eq_bind, Option.bind_some, Option.pure_def, List.append_nil]
           refine PFun.use (join44_fun W0 false (g.ways.map (shL true)) (by rw [List.length_map]; omega) (by omega)) fun h4 s4 => hM _ _ ?_
           replace s4 := Same.trans (Same.refl _) s4
           clear hM M
           refine pops_to rfl fun M hM => ?_
           simp only [pop, St.eval, constSlot, upd_at, Nat.reduceEqDiff, if_true, if_false, popBin, binK, strK, eq_self, str_size, str_app]
           refine ⟨by first | omega | (simp only [List.length_cons, List.length_nil]; omega), hM _ _ ?_⟩
           clear hM M
           refine pops_to rfl fun M hM => ?_
           simp only [pop, St.eval, constSlot, upd_at, Nat.reduceEqDiff, if_true, if_false, popBin, binK, strK, eq_self, str_size, str_app]
           refine ⟨by first | omega | (simp only [List.length_append, List.length_cons, List.length_nil]; omega), hM _ _ ?_⟩
           clear hM M
           refine pops_to rfl fun M hM => ?_
           simp only [pop, St.eval, upd_at, Nat.reduceEqDiff, if_true, if_false, popBin, binK, strK, eq_self, str_size, str_app]
           refine ⟨by first | omega | (simp only [List.length_append, List.length_cons, List.length_nil]; omega), hM _ _ ?_⟩
           clear hM M
           refine pops_mv (.inr rfl) rfl (by simp only [St.eval, upd_at, Nat.reduceEqDiff, if_true, if_false] <;> rfl) ?_
           refine pops_done (hR69 _ ?_)
           clear hR69 R69
           try simp only [blockK, thenK]
           try simp only [blockK, thenK, scopeK]
           try simp only [thenK, scopeK]
           refine hN11 _ ?_
           clear hN11 N11
           refine pwp_reg fun R70 hR70 => ?_
           refine pops_to rfl fun M hM => ?_
           simp only [pop, St.eval, constSlot, upd_at, Nat.reduceEqDiff, if_false, popBin, binK, intK, eq_self, true_and, e2_14]
           refine hM _ _ ?_
           clear hM M
           refine pops_mv (.inl rfl) rfl (by simp only [St.eval, upd_at, Nat.reduceEqDiff, if_true, if_false] <;> rfl) ?_
           refine pops_done (hR70 _ ?_)
           clear hR70 R70
           try simp only [thenK]
           exact ⟨_, by omega, _, .refl _ _, i + 1, rfl, by omega, by first | exact hk9.trans (Same.keeps s4) | exact hKt.trans (Same.keeps s4) | exact hKa.trans (Same.keeps s4), by simp only [upd_at, Nat.reduceEqDiff, if_false, e2_0], by simp only [upd_at, Nat.reduceEqDiff, if_false, e2_1], by simp only [upd_at, Nat.reduceEqDiff, if_false, e2_12], by simp only [upd_at, Nat.reduceEqDiff, if_false, e2_13], by simp only [upd_at, Nat.reduceEqDiff, if_true, if_false]; rw [wrap_succ (by omega)], by first | (simp only [upd_at, Nat.reduceEqDiff, if_true, if_false, hst, hsh, e1_5]; done) | (simp only [upd_at, Nat.reduceEqDiff, if_true, if_false, hst, hsh, hjw]; simp; done) | (simp only [upd_at, Nat.reduceEqDiff, if_true, if_false, hst, hsh]; done) | (simp only [upd_at, Nat.reduceEqDiff, if_true, if_false, hst, hsh]; rfl)⟩
        ·skip
         have hk6 : ¬ g.kind = 6 := by simpa using c73
         omega
  ·skip
   obtain rfl : i = l.length := by have := of_decide_eq_false c15; omega
   rw [List.take_length] at e0_5
   refine pwp_exit ?_
   try simp only [thenK, blockK, if_true]
   clear hN10 N10
   try simp only [blockK, scopeK, if_true, Nat.reduceEqDiff, if_false, thenK]
   try simp only [thenK, scopeK]
   refine hN5 _ ?_
   clear hN5 N5
   refine pwp_then fun N71 hN71 => ?_
   refine pwp_reg fun R72 hR72 => ?_
   refine pops_mv (.inl rfl) rfl (by simp only [St.eval, upd_at, Nat.reduceEqDiff, if_false, e0_5] <;> rfl) ?_
   refine pops_mv (.inr rfl) rfl (by simp only [St.eval, upd_at, Nat.reduceEqDiff, if_true, if_false] <;> rfl) ?_
   refine pops_done (hR72 _ ?_)
   clear hR72 R72
   try simp only [thenK]
   refine hN71 _ ?_
   clear hN71 N71
   refine pwp_ret ?_
   simp only [bodyK]
   exact ⟨_, rfl, endKeeps1 (hKa.trans (Same.keeps (Same.refl _))) rfl⟩
end Go.Pw
