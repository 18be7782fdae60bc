/- Own work: part of the proof of the row YtlghclplgbijjaaDoorRowFilterChecksUpto; no condition of its own. -/
import Derived.Test.YtlghclplgbijjaaDoorGlobI
import Derived.Test.YtlghclplgbijjaaDoorGFacts
namespace Go.Pw
open Go Go.RowKit Go.Proofs
set_option maxRecDepth 100000
set_option linter.unusedSimpArgs false
set_option linter.unusedVariables false
theorem checkPartsR_fun (W0 : World) (l : List GPart) (hl : lW l ≤ 1048576) : PFun Tryd.prog W0 23 [.one (.ro false 5 (encL l))] (.sv (.one (pint (chkL false l)))) :=
  rec_parts (Q := fun l => lW l ≤ 1048576 → PFun Tryd.prog W0 23 [.one (.ro false 5 (encL l))] (.sv (.one (pint (chkL false l))))) (fun l ih hl => checkPartsR_fun1 W0 l hl ih) l hl
theorem has78 : Has Tryd.prog 78 := ⟨_, Tryd.func78, rfl, by kernel_rfl⟩
theorem join44_fun (W0 : World) (full : Bool) (xs : List (List UInt8)) (hn : xs.length ≤ 140737488355328) (hj : (Lib.join xs [44]).length ≤ 140737488355328) :
    PFun Tryd.prog W0 78 [.one (.ro full 1 (pstrs xs)), .one (.val (.string ⟨#[44]⟩))] (.sv (.one (pstr (Lib.join xs [44])))) := by
  refine fun h => ⟨has78, fun w m vs R hl hv => ?_⟩
  match vs, hl with
  | [v0, v1], _ =>
    have h0 := hv 0 _ v0 rfl rfl
    have h1 := hv 1 _ v1 rfl rfl
    have e1 : v1 = .string ⟨#[44]⟩ := by cases h1; rfl
    subst e1
    have done : ∀ e w', e = Ending.returned (.string ⟨(Lib.join xs [44]).toArray⟩) → Below w.heap.size w w' → ∃ v r h' m', e = .returned v ∧ (r = Slot.sv (.one (pstr (Lib.join xs [44]))) ∧ Same h h') ∧ LR w' h' m' r v ∧ HR W0 w' h' m' ∧ Ext w h m w' h' m' :=
      fun e w' he hb => ⟨_, _, h, m, he, ⟨rfl, .refl _⟩, .val _ rfl, R.grow hb, Ext.grow hb⟩
    rcases vr_strs h0 with ⟨rfl, a, c, rfl⟩ | ⟨g, off, c, rfl, hg, hc, hcell⟩
    · exact (Tryd.strings_Join_none a c ⟨#[44]⟩ w).mono fun e w' ⟨he, hw⟩ => done e w' (he.trans rfl) (hw ▸ Below.refl' w)
    · have hm : (xs.map fun x => (⟨x.toArray⟩ : ByteArray)).map (·.data.toList) = xs := by
        rw [List.map_map, List.map_congr_left (g := id) (fun x _ => by simp)]
        simp
      have hs : (⟨#[44]⟩ : ByteArray).data.toList = [44] := rfl
      have := Tryd.strings_Join g off c (xs.map fun x => (⟨x.toArray⟩ : ByteArray)) ⟨#[44]⟩ w (fun j x hx => by
        rw [List.getElem?_map] at hx
        obtain ⟨y, hy, rfl⟩ := Option.map_eq_some_iff.1 hx
        exact hcell j y hy) hg (by simpa using hn) (by simpa using hc) (by rw [hm, hs]; exact hj)
      rw [hm, hs, List.length_map] at this
      exact this.mono fun e w' ⟨he, hb⟩ => done e w' he (Below.lift hb)
def idxW (w : List (List GPart)) : Int := match w.findIdx? (stL false) with | some k => (k : Int) | none => -1
theorem idxW_hit {w : List (List GPart)} {i : Nat} {v : List GPart} (h1 : ∀ y ∈ w.take i, stL false y = false) (hx : w[i]? = some v) (hq : stL false v = true) : idxW w = (i : Int) := by
  have : w.findIdx? (stL false) = some i := by
    induction w generalizing i with
    | nil => cases hx
    | cons a w ih =>
      cases i with
      | zero =>
        obtain rfl := Option.some.inj hx
        rw [List.findIdx?_cons, hq]; rfl
      | succ i =>
        have h0 := h1 a (by simp)
        rw [List.findIdx?_cons, h0]
        have := ih (i := i) (fun y hy => h1 y (by simp [hy])) hx
        simp [this]
  unfold idxW
  rw [this]
theorem idxW_none {w : List (List GPart)} (h1 : ∀ y ∈ w, stL false y = false) : idxW w = -1 := by
  have : w.findIdx? (stL false) = none := List.findIdx?_eq_none_iff.2 h1
  unfold idxW
  rw [this]
theorem stW_any : ∀ w : List (List GPart), stW w = w.any (stL false)
  | [] => rfl
  | l :: w => by rw [stW, stW_any w]; rfl
theorem idxW_has (w : List (List GPart)) : decide (idxW w ≥ 0) = stW w := by
  rw [stW_any]
  unfold idxW
  cases h : w.findIdx? (stL false) with
  | none =>
    have h2 := List.findIdx?_eq_none_iff.1 h
    rw [show w.any (stL false) = false from List.any_eq_false.2 fun x hx => by rw [h2 x hx]; decide]
    rfl
  | some k =>
    obtain ⟨hk, h3, _⟩ := List.findIdx?_eq_some_iff_getElem.1 h
    rw [show w.any (stL false) = true from List.any_eq_true.2 ⟨_, List.getElem_mem hk, h3⟩]
    simp
theorem bnd_1 {n : Int} (h : ([92, 93, 94, 45] : List UInt8).contains (UInt8.ofNat (n % 256).toNat) = true) : bnd n = [92, UInt8.ofNat (n % 256).toNat] := by
  unfold bnd
  rw [escT, escT, List.append_nil, if_pos (show bndB _ = true from h)]
theorem bnd_0 {n : Int} (h : ([92, 93, 94, 45] : List UInt8).contains (UInt8.ofNat (n % 256).toNat) = false) : bnd n = [UInt8.ofNat (n % 256).toNat] := by
  unfold bnd
  rw [escT, escT, List.append_nil, if_neg (by rw [show bndB _ = false from h]; decide)]
def setT0 (neg : Bool) (r : List (Int × Int)) : List UInt8 := [91] ++ ((if neg then [94] else []) ++ (r.map showR).flatten)
theorem set_step {neg : Bool} {r : List (Int × Int)} {i : Nat} {x : Int × Int} (h : r[i]? = some x) : setT0 neg (r.take (i + 1)) = setT0 neg (r.take i) ++ showR x := by
  unfold setT0
  rw [take_at h]
  simp
theorem set_end (neg : Bool) (r : List (Int × Int)) : setT0 neg r ++ [93] = showS neg r := by unfold setT0 showS; simp
theorem set_len (neg : Bool) (r : List (Int × Int)) : (setT0 neg r).length ≤ 2 + 5 * r.length := by
  have := showS_len neg r
  rw [← set_end, List.length_append] at this
  simp only [List.length_cons, List.length_nil] at this
  omega
theorem shR_1 {x : Int × Int} (h1 : x.2 > x.1 + 1) : showR x = bnd x.1 ++ [45] ++ bnd x.2 := by
  unfold showR
  rw [if_pos h1, if_pos (by omega), List.append_assoc]
theorem shR_2 {x : Int × Int} (h1 : ¬ x.2 > x.1 + 1) (h2 : x.2 > x.1) : showR x = bnd x.1 ++ bnd x.2 := by
  unfold showR
  rw [if_neg h1, if_pos h2, List.nil_append]
theorem shR_3 {x : Int × Int} (h1 : ¬ x.2 > x.1 + 1) (h2 : ¬ x.2 > x.1) : showR x = bnd x.1 := by
  unfold showR
  rw [if_neg h1, if_neg h2, List.append_nil, List.append_nil]
theorem u8_modJ (n : Int) : IntKind.u8.wrap n = ((UInt8.ofNat (n % 256).toNat).toNat : Int) := by
  rw [UInt8.toNat_ofNat']
  simp [IntKind.wrap, IntKind.bits, IntKind.signed]
  omega
theorem str_ofJ {P : Program} {t ts t8 : TypeId} {b : Bool} {l : List UInt8} {hp : Hp} {N : Slot → Hp → Prop} (hs : P.underlying ts = some .string) (ht : P.underlying t = some (.slice t8)) (h8 : P.underlying t8 = some (.int .u8)) (H : N (.sv (.one (pstr l))) hp) :
    popConvert P t ts (.sv (.one (.ro b 1 (l.map byteCell)))) hp N := by
  unfold popConvert
  simp only [hs, ht]
  exact ⟨h8, l, ⟨1, rfl⟩, H⟩
theorem quot_end {s : List UInt8} {m n : Nat} {c : UInt8} (hn : n < m) (hm : m ≤ s.length) (hc : s[m - 1 - n]? = some c) (ht : tbs (s.take m) = n + tbs (s.take (m - n))) : tbs (s.take m) = n + (if c = 92 then tbs (s.take (m - (n + 1))) + 1 else 0) := by
  have e : s.take (m - n) = s.take (m - (n + 1)) ++ [c] := by
    have h := take_at hc
    rwa [show m - 1 - n + 1 = m - n by omega, show m - 1 - n = m - (n + 1) by omega] at h
  rw [ht, e, tbs_snoc]
theorem nm46 : (Tryd.f46.name == "runtime.NumGoroutine") = false := by kernel_rfl
theorem starR_fun (W0 : World) (g : GPart) :
  PFun Tryd.prog W0 46 [.agg [pint g.kind, pstr g.text, pbool g.neg, .ro false 2 (rngPV g.ranges), .ro false 1 (encW g.ways)]] (.sv (.one (pbool (starB g)))) := by
 intro h
 refine pcalls1 (n := 11) Tryd.func46 rfl nm46 rfl fun hb => ?_
 refine pwp_then fun N1 hN1 => ?_
 refine pwp_reg fun R2 hR2 => ?_
 refine pops_to rfl fun M hM => ?_
 simp only [pop, St.eval, upd_at, if_true, popBox, popBoxRo, slotCells]
 refine .inr ⟨Nat.succ_pos _, hM _ _ ?_⟩
 clear hM M
 refine pops_mv (.inr rfl) rfl (by simp only [St.eval, constSlot] <;> rfl) ?_
 refine pops_done (hR2 _ ?_)
 clear hR2 R2
 try simp only [thenK]
 refine hN1 _ ?_
 clear hN1 N1
 refine pwp_then fun N3 hN3 => ?_
 refine pwp_reg fun R4 hR4 => ?_
 refine pops_to rfl fun M hM => ?_
 simp only [pop, St.eval, upd_at, Nat.reduceEqDiff, if_true, if_false, popFieldAddr, fieldOf, List.drop_zero, List.getElem?_toArray, List.getElem?_cons_zero, Tryd.underlying64, sz3]
 refine ⟨⟨_, rfl⟩, hM _ _ ?_⟩
 clear hM M
 refine pops_to rfl fun M hM => ?_
 simp only [pop, St.eval, upd_at, Nat.reduceEqDiff, if_true, if_false, popLoad, loadK, isAggD, Bool.false_eq_true, Tryd.underlying3, sz3, eq_self]
 refine hM _ _ ?_
 clear hM M
 refine pops_to rfl fun M hM => ?_
 simp only [pop, St.eval, constSlot, upd_at, Nat.reduceEqDiff, if_true, if_false, popBin, binK, intK, eq_self, true_and]
 refine hM _ _ ?_
 clear hM M
 refine pops_mv (.inl rfl) rfl (by simp only [St.eval, upd_at, Nat.reduceEqDiff, if_true, if_false] <;> rfl) ?_
 apply pops_or0 4 6 10 [7, 8, 9] (by simp only [upd_at, Nat.reduceEqDiff, if_true, if_false] <;> rfl)
 ·skip
  intro g6_0 J5 hJ5
  simp only [List.take_succ_cons, List.take_zero]
  simp only [anyAt_cons, anyAt_nil] at hJ5
  refine pops_do rfl rfl (by simp only [upd_at, Nat.reduceEqDiff, if_true, if_false, g6_0]) fun M hM => ?_
  simp only [pop, St.eval, upd_at, Nat.reduceEqDiff, if_true, if_false, popFieldAddr, fieldOf, List.drop_zero, List.getElem?_toArray, List.getElem?_cons_zero, Tryd.underlying64, sz3, g6_0]
  refine ⟨⟨_, rfl⟩, hM _ _ ?_⟩
  clear hM M
  refine pops_do rfl rfl (by simp only [upd_at, Nat.reduceEqDiff, if_true, if_false, g6_0]) fun M hM => ?_
  simp only [pop, St.eval, upd_at, Nat.reduceEqDiff, if_true, if_false, popLoad, loadK, isAggD, Bool.false_eq_true, Tryd.underlying3, sz3, eq_self, g6_0]
  refine hM _ _ ?_
  clear hM M
  refine pops_do rfl rfl (by simp only [upd_at, Nat.reduceEqDiff, if_true, if_false, g6_0]) fun M hM => ?_
  simp only [pop, St.eval, constSlot, upd_at, Nat.reduceEqDiff, if_true, if_false, popBin, binK, intK, eq_self, true_and, g6_0]
  refine hM _ _ ?_
  clear hM M
  refine pops_to rfl fun M hM => ?_
  simp only [pop, St.eval, constSlot, upd_at, Nat.reduceEqDiff, if_true, if_false, true_implies, false_implies, Bool.false_eq_true, reduceCtorEq, true_and, g6_0]
  refine hM _ _ ?_
  clear hM M
  exact pops_done (hJ5 _ (wk_same (wk_any ((wk_any ((wk_any (Wk.refl _ _))))))))
 ·skip
  intro g6_0 J5 hJ5
  simp only [List.take_succ_cons, List.take_zero]
  simp only [anyAt_cons, anyAt_nil] at hJ5
  refine pops_off (b := true) rfl rfl (by simp only [upd_at, Nat.reduceEqDiff, if_true, if_false, g6_0]) (by decide) ?_
  refine pops_off (b := true) rfl rfl (by simp only [upd_at, Nat.reduceEqDiff, if_true, if_false, g6_0]) (by decide) ?_
  refine pops_off (b := true) rfl rfl (by simp only [upd_at, Nat.reduceEqDiff, if_true, if_false, g6_0]) (by decide) ?_
  refine pops_to rfl fun M hM => ?_
  simp only [pop, St.eval, constSlot, upd_at, Nat.reduceEqDiff, if_true, if_false, true_implies, false_implies, Bool.true_eq_false, reduceCtorEq, and_true, g6_0]
  refine hM _ _ ?_
  clear hM M
  exact pops_done (hJ5 _ (wk_same (wk_any ((wk_any ((wk_any (Wk.refl _ _))))))))
 simp only [List.drop_succ_cons, List.drop_zero, anyAt_cons, anyAt_nil]
 refine pops_mv (.inr rfl) rfl (by simp only [St.eval, upd_at, Nat.reduceEqDiff, if_true, if_false] <;> rfl) ?_
 refine pops_done (hR4 _ ?_)
 clear hR4 R4
 try simp only [thenK]
 refine hN3 _ ?_
 clear hN3 N3
 refine pwp_ret ?_
 simp only [bodyK]
 refine ⟨_, rfl, endFun (Same.refl _) ?_⟩
 try simp only [upd_at, Nat.reduceEqDiff, if_true, if_false]
 all_goals
  rw [starB]; rfl
theorem nm76 : (Tryd.f76.name == "runtime.NumGoroutine") = false := by kernel_rfl
theorem indexWays_fun (W0 : World) (w : List (List GPart)) (hn : w.length ≤ 1048576) (hp : ∀ v ∈ w, PFun Tryd.prog W0 24 [.one (.ro false 5 (encL v))] (.sv (.one (pbool (stL false v))))) :
  PFun Tryd.prog W0 76 [.one (.ro false 1 (encW w)), .one (.clo (.func 24) [])] (.sv (.one (pint (idxW w)))) := by
 intro h
 refine pcalls2 (n := 19) Tryd.func76 rfl nm76 rfl fun hb => ?_
 refine pwp_then fun N1 hN1 => ?_
 refine pwp_reg fun R2 hR2 => ?_
 refine pops_mv (.inr rfl) rfl (by simp only [St.eval, constSlot] <;> rfl) ?_
 refine pops_done (hR2 _ ?_)
 clear hR2 R2
 try simp only [thenK]
 refine hN1 _ ?_
 clear hN1 N1
 refine pwp_then fun N3 hN3 => ?_
 refine pwp_then fun N4 hN4 => ?_
 refine pwp_reg fun R5 hR5 => ?_
 refine pops_mv (.inl rfl) rfl (by simp only [St.eval, upd_at, Nat.reduceEqDiff, if_true, if_false] <;> rfl) ?_
 refine pops_to rfl fun M hM => ?_
 simp only [pop, St.eval, upd_at, Nat.reduceEqDiff, if_true, if_false, popCall, List.map_cons, List.map_nil, popBuiltin, popLen, lenOfSlot, Tryd.underlying62, eq_self, encW_len]
 refine hM _ _ ?_
 clear hM M
 refine pops_mv (.inl rfl) rfl (by simp only [St.eval, constSlot] <;> rfl) ?_
 refine pops_done (hR5 _ ?_)
 clear hR5 R5
 try simp only [thenK]
 refine hN4 _ ?_
 clear hN4 N4
 refine pwp_block ?_
 refine pwp_loop (fun k σ => ∃ (i : Nat), (k = w.length - i) ∧ (i ≤ w.length) ∧ (∀ y ∈ w.take i, stL false y = false) ∧ (Same h σ.hp) ∧ (σ.env 0 = .sv (.one (.ro false 1 (encW w)))) ∧ (σ.env 1 = .sv (.one (.clo (.func 24) []))) ∧ (σ.env 7 = .sv (.one (pint (w.length : Nat)))) ∧ (σ.env 8 = .sv (.one (pint (i : Nat))))) _ ⟨_, .refl _ _, 0, rfl, ?_⟩ ?_
 · exact ⟨Nat.zero_le _, by simp, (Same.refl _), by simp only [upd_at, Nat.reduceEqDiff, if_true, if_false], by simp only [upd_at, Nat.reduceEqDiff, if_true, if_false], by first | rfl | (simp only [upd_at, Nat.reduceEqDiff, if_true, if_false]; rfl), by first | rfl | (simp only [upd_at, Nat.reduceEqDiff, if_true, if_false]; rfl)⟩
 ·rintro k ⟨e, hp0⟩ ⟨i, hk0, hx0_0, hx0_1, sl0, e0_0, e0_1, e0_7, e0_8⟩
  simp only at sl0 e0_0 e0_1 e0_7 e0_8
  refine pwp_then fun N6 hN6 => ?_
  refine pwp_reg fun R7 hR7 => ?_
  refine pops_to rfl fun M hM => ?_
  simp only [pop, St.eval, popBin, binK, intK, eq_self, true_and, e0_7, e0_8]
  refine hM _ _ ?_
  clear hM M
  refine pops_done (hR7 _ ?_)
  clear hR7 R7
  try simp only [thenK]
  refine hN6 _ ?_
  clear hN6 N6
  refine pwp_then fun N8 hN8 => ?_
  refine pwp_cond (by simp only [St.eval, upd_at, if_true] <;> rfl) (fun c9 => ?_) (fun c9 => ?_)
  ·skip
   have hi : i < w.length := by have := of_decide_eq_true c9; omega
   obtain ⟨v, hv⟩ : ∃ v, w[i]? = some v := ⟨_, List.getElem?_eq_getElem hi⟩
   have hget := encW_at hv
   refine pwp_skip ?_
   try simp only [thenK]
   refine hN8 _ ?_
   clear hN8 N8
   refine pwp_then fun N9 hN9 => ?_
   refine pwp_block ?_
   refine pwp_then fun N10 hN10 => ?_
   refine pwp_reg fun R11 hR11 => ?_
   refine pops_mv (.inl rfl) rfl (by simp only [St.eval, upd_at, Nat.reduceEqDiff, if_false, e0_8] <;> rfl) ?_
   refine pops_mv (.inr rfl) rfl (by simp only [St.eval, upd_at, Nat.reduceEqDiff, if_true, if_false] <;> rfl) ?_
   refine pops_done (hR11 _ ?_)
   clear hR11 R11
   try simp only [thenK]
   refine hN10 _ ?_
   clear hN10 N10
   refine pwp_then fun N12 hN12 => ?_
   refine pwp_reg fun R13 hR13 => ?_
   refine pops_mv (.inl rfl) rfl (by simp only [St.eval, upd_at, Nat.reduceEqDiff, if_false, e0_1] <;> rfl) ?_
   refine pops_mv (.inl rfl) rfl (by simp only [St.eval, upd_at, Nat.reduceEqDiff, if_false, e0_0] <;> rfl) ?_
   refine pops_mv (.inl rfl) rfl (by simp only [St.eval, upd_at, Nat.reduceEqDiff, if_true, if_false] <;> rfl) ?_
   refine pops_to rfl fun M hM => ?_
   simp only [pop, St.eval, upd_at, Nat.reduceEqDiff, if_true, if_false, popIndexAddr, Tryd.underlying62, sz22, eq_self, true_and, hget, Int.toNat_natCast]
   refine ⟨Int.natCast_nonneg _, hM _ _ ?_⟩
   clear hM M
   refine pops_to rfl fun M hM => ?_
   simp only [pop, St.eval, upd_at, Nat.reduceEqDiff, if_true, if_false, popLoad, loadK, isAggD, Bool.false_eq_true, Tryd.underlying22, sz22, eq_self]
   refine hM _ _ ?_
   clear hM M
   refine pops_to rfl fun M hM => ?_
   simp only [pop, St.eval, constSlot, upd_at, Nat.reduceEqDiff, if_true, if_false, popCall, List.map_nil, svs, List.mapM_cons, List.mapM_nil, Option.bind_eq_bind, Option.bind_some, Option.pure_def, List.append_nil]
   refine PFun.use (hp v (List.mem_of_getElem? hv)) fun h1 s1 => hM _ _ ?_
   replace s1 := Same.trans sl0 s1
   clear hM M
   refine pops_done (hR13 _ ?_)
   clear hR13 R13
   try simp only [thenK]
   refine hN12 _ ?_
   clear hN12 N12
   refine pwp_cond (by simp only [St.eval, upd_at, Nat.reduceEqDiff, if_true, if_false] <;> rfl) (fun c16 => ?_) (fun c16 => ?_)
   ·skip
    have hf := idxW_hit hx0_1 hv c16
    refine pwp_then fun N14 hN14 => ?_
    refine pwp_reg fun R15 hR15 => ?_
    refine pops_mv (.inl rfl) rfl (by simp only [St.eval, upd_at, Nat.reduceEqDiff, if_true, if_false] <;> rfl) ?_
    refine pops_mv (.inr rfl) rfl (by simp only [St.eval, upd_at, Nat.reduceEqDiff, if_true, if_false] <;> rfl) ?_
    refine pops_done (hR15 _ ?_)
    clear hR15 R15
    try simp only [thenK]
    refine hN14 _ ?_
    clear hN14 N14
    refine pwp_ret ?_
    simp only [thenK, blockK, bodyK]
    clear hN9 N9 hN3 N3
    refine ⟨_, rfl, endFun s1 ?_⟩
    try simp only [upd_at, Nat.reduceEqDiff, if_true, if_false]
    all_goals
     rw [hf]
   ·skip
    refine pwp_skip ?_
    try simp only [blockK, thenK]
    try simp only [thenK, scopeK]
    refine hN9 _ ?_
    clear hN9 N9
    refine pwp_reg fun R16 hR16 => ?_
    refine pops_to rfl fun M hM => ?_
    simp only [pop, St.eval, constSlot, upd_at, Nat.reduceEqDiff, if_false, popBin, binK, intK, eq_self, true_and, e0_8]
    refine hM _ _ ?_
    clear hM M
    refine pops_mv (.inl rfl) rfl (by simp only [St.eval, upd_at, Nat.reduceEqDiff, if_true, if_false] <;> rfl) ?_
    refine pops_done (hR16 _ ?_)
    clear hR16 R16
    try simp only [thenK]
    exact ⟨_, by omega, _, .refl _ _, i + 1, rfl, by omega, take_nextG hx0_1 hv c16, s1, by simp only [upd_at, Nat.reduceEqDiff, if_false, e0_0], by simp only [upd_at, Nat.reduceEqDiff, if_false, e0_1], by simp only [upd_at, Nat.reduceEqDiff, if_false, e0_7], by simp only [upd_at, Nat.reduceEqDiff, if_true, if_false, e0_8]; rw [wrap_succ (by omega)]⟩
  ·skip
   have hi := of_decide_eq_false c9
   refine pwp_exit ?_
   try simp only [thenK, blockK, if_true]
   clear hN8 N8
   try simp only [blockK, scopeK, if_true, Nat.reduceEqDiff, if_false, thenK]
   try simp only [thenK, scopeK]
   refine hN3 _ ?_
   clear hN3 N3
   refine pwp_then fun N17 hN17 => ?_
   refine pwp_reg fun R18 hR18 => ?_
   refine pops_mv (.inr rfl) rfl (by simp only [St.eval, constSlot] <;> rfl) ?_
   refine pops_done (hR18 _ ?_)
   clear hR18 R18
   try simp only [thenK]
   refine hN17 _ ?_
   clear hN17 N17
   refine pwp_ret ?_
   simp only [bodyK]
   refine ⟨_, rfl, endFun sl0 ?_⟩
   try simp only [upd_at, Nat.reduceEqDiff, if_true, if_false]
   all_goals
    rw [idxW_none (by rw [List.take_of_length_le (by omega)] at hx0_1; exact hx0_1)]
theorem nm47 : (Tryd.f47.name == "runtime.NumGoroutine") = false := by kernel_rfl
theorem anyWays_fun (W0 : World) (w : List (List GPart)) (hn : w.length ≤ 1048576) (hp : ∀ v ∈ w, PFun Tryd.prog W0 24 [.one (.ro false 5 (encL v))] (.sv (.one (pbool (stL false v))))) :
  PFun Tryd.prog W0 47 [.one (.ro false 1 (encW w)), .one (.clo (.func 24) [])] (.sv (.one (pbool (stW w)))) := by
 intro h
 refine pcalls2 (n := 9) Tryd.func47 rfl nm47 rfl fun hb => ?_
 refine pwp_then fun N1 hN1 => ?_
 refine pwp_reg fun R2 hR2 => ?_
 refine pops_mv (.inr rfl) rfl (by simp only [St.eval, constSlot] <;> rfl) ?_
 refine pops_done (hR2 _ ?_)
 clear hR2 R2
 try simp only [thenK]
 refine hN1 _ ?_
 clear hN1 N1
 refine pwp_then fun N3 hN3 => ?_
 refine pwp_reg fun R4 hR4 => ?_
 refine pops_mv (.inl rfl) rfl (by simp only [St.eval, upd_at, Nat.reduceEqDiff, if_true, if_false] <;> rfl) ?_
 refine pops_mv (.inl rfl) rfl (by simp only [St.eval, upd_at, Nat.reduceEqDiff, if_true, if_false] <;> rfl) ?_
 refine pops_to rfl fun M hM => ?_
 simp only [pop, St.eval, constSlot, upd_at, Nat.reduceEqDiff, if_true, if_false, popCall, List.map_nil, svs, List.mapM_cons, List.mapM_nil, Option.bind_eq_bind, Option.bind_some, Option.pure_def, List.append_nil]
 refine PFun.use (indexWays_fun W0 w hn hp) fun h1 s1 => hM _ _ ?_
 replace s1 := Same.trans (Same.refl _) s1
 clear hM M
 refine pops_to rfl fun M hM => ?_
 simp only [pop, St.eval, constSlot, upd_at, Nat.reduceEqDiff, if_true, if_false, popBin, binK, intK, eq_self, true_and]
 refine hM _ _ ?_
 clear hM M
 refine pops_mv (.inr rfl) rfl (by simp only [St.eval, upd_at, Nat.reduceEqDiff, if_true, if_false] <;> rfl) ?_
 refine pops_done (hR4 _ ?_)
 clear hR4 R4
 try simp only [thenK]
 refine hN3 _ ?_
 clear hN3 N3
 refine pwp_ret ?_
 simp only [bodyK]
 refine ⟨_, rfl, endFun s1 ?_⟩
 try simp only [upd_at, Nat.reduceEqDiff, if_true, if_false]
 all_goals
  rw [← idxW_has]
theorem nm24 : (Tryd.f24.name == "runtime.NumGoroutine") = false := by kernel_rfl
set_option maxHeartbeats 4000000 in
theorem starsR_fun1 (W0 : World) (l : List GPart) (hl : lW l ≤ 1048576) (ih : ∀ l' : List GPart, lW l' < lW l → lW l' ≤ 1048576 → PFun Tryd.prog W0 24 [.one (.ro false 5 (encL l'))] (.sv (.one (pbool (stL false l'))))) :
  PFun Tryd.prog W0 24 [.one (.ro false 5 (encL l))] (.sv (.one (pbool (stL false l)))) := by
 intro h
 have hln := lW_len l
 refine pcalls1 (n := 35) Tryd.func24 rfl nm24 rfl fun hb => ?_
 refine pwp_then fun N1 hN1 => ?_
 refine pwp_reg fun R2 hR2 => ?_
 refine pops_mv (.inr rfl) rfl (by simp only [St.eval, constSlot] <;> rfl) ?_
 refine pops_done (hR2 _ ?_)
 clear hR2 R2
 try simp only [thenK]
 refine hN1 _ ?_
 clear hN1 N1
 refine pwp_then fun N3 hN3 => ?_
 refine pwp_reg fun R4 hR4 => ?_
 refine pops_mv (.inr rfl) rfl (by simp only [St.eval] <;> rfl) ?_
 refine pops_done (hR4 _ ?_)
 clear hR4 R4
 try simp only [thenK]
 refine hN3 _ ?_
 clear hN3 N3
 refine pwp_then fun N5 hN5 => ?_
 refine pwp_then fun N6 hN6 => ?_
 refine pwp_reg fun R7 hR7 => ?_
 refine pops_mv (.inl rfl) rfl (by simp only [St.eval, upd_at, Nat.reduceEqDiff, if_true, if_false] <;> rfl) ?_
 refine pops_to rfl fun M hM => ?_
 simp only [pop, St.eval, upd_at, Nat.reduceEqDiff, if_true, if_false, popCall, List.map_cons, List.map_nil, popBuiltin, popLen, lenOfSlot, Tryd.underlying22, eq_self, encL_len]
 refine hM _ _ ?_
 clear hM M
 refine pops_mv (.inl rfl) rfl (by simp only [St.eval, constSlot] <;> rfl) ?_
 refine pops_done (hR7 _ ?_)
 clear hR7 R7
 try simp only [thenK]
 refine hN6 _ ?_
 clear hN6 N6
 refine pwp_block ?_
 refine pwp_loop (fun k σ => ∃ (i : Nat), (k = l.length - i) ∧ (i ≤ l.length) ∧ (stL (starAt l i) (l.drop i) = stL false l) ∧ (Same h σ.hp) ∧ (σ.env 0 = .sv (.one (.ro false 5 (encL l)))) ∧ (σ.env 3 = .sv (.one (.clo (.func 46) []))) ∧ (σ.env 6 = .sv (.one (.ro false 5 (encL l)))) ∧ (σ.env 7 = .sv (.one (pint (l.length : Nat)))) ∧ (σ.env 8 = .sv (.one (pint (i : Nat))))) _ ⟨_, .refl _ _, 0, rfl, ?_⟩ ?_
 · exact ⟨Nat.zero_le _, rfl, (Same.refl _), by simp only [upd_at, Nat.reduceEqDiff, if_true, if_false], by simp only [upd_at, Nat.reduceEqDiff, if_true, if_false], by simp only [upd_at, Nat.reduceEqDiff, if_true, if_false], by first | rfl | (simp only [upd_at, Nat.reduceEqDiff, if_true, if_false]; rfl), by first | rfl | (simp only [upd_at, Nat.reduceEqDiff, if_true, if_false]; rfl)⟩
 ·rintro k ⟨e, hp0⟩ ⟨i, hk0, hx0_0, hx0_1, sl0, e0_0, e0_3, e0_6, e0_7, e0_8⟩
  simp only at sl0 e0_0 e0_3 e0_6 e0_7 e0_8
  refine pwp_then fun N8 hN8 => ?_
  refine pwp_reg fun R9 hR9 => ?_
  refine pops_to rfl fun M hM => ?_
  simp only [pop, St.eval, popBin, binK, intK, eq_self, true_and, e0_7, e0_8]
  refine hM _ _ ?_
  clear hM M
  refine pops_done (hR9 _ ?_)
  clear hR9 R9
  try simp only [thenK]
  refine hN8 _ ?_
  clear hN8 N8
  refine pwp_then fun N10 hN10 => ?_
  refine pwp_cond (by simp only [St.eval, upd_at, if_true] <;> rfl) (fun c9 => ?_) (fun c9 => ?_)
  ·skip
   have hi : i < l.length := by have := of_decide_eq_true c9; omega
   obtain ⟨g, hg⟩ : ∃ g, l[i]? = some g := ⟨_, List.getElem?_eq_getElem hi⟩
   have hget := encL_at hg
   rw [encG_eq] at hget
   have hgw := lW_at hg
   have hge := gW_eq g
   have hwl := wW_len g.ways
   have hrl := rng_len g.ranges
   have hst := st_step hg
   rw [hx0_1] at hst
   have hways : ∀ v ∈ g.ways, PFun Tryd.prog W0 24 [.one (.ro false 5 (encL v))] (.sv (.one (pbool (stL false v)))) := fun v hv => by
     obtain ⟨j, hj⟩ := List.getElem?_of_mem hv
     have hlt := way_lt hg hj
     exact ih v hlt (by omega)
   refine pwp_skip ?_
   try simp only [thenK]
   refine hN10 _ ?_
   clear hN10 N10
   refine pwp_then fun N11 hN11 => ?_
   refine pwp_block ?_
   refine pwp_then fun N12 hN12 => ?_
   refine pwp_reg fun R13 hR13 => ?_
   refine pops_mv (.inl rfl) rfl (by simp only [St.eval, upd_at, Nat.reduceEqDiff, if_false, e0_8] <;> rfl) ?_
   refine pops_to rfl fun M hM => ?_
   simp only [pop, St.eval, upd_at, Nat.reduceEqDiff, if_false, popIndexAddr, Tryd.underlying22, sz64, eq_self, true_and, e0_6, e0_8, hget, Int.toNat_natCast]
   refine ⟨Int.natCast_nonneg _, hM _ _ ?_⟩
   clear hM M
   refine pops_to rfl fun M hM => ?_
   simp only [pop, St.eval, upd_at, Nat.reduceEqDiff, if_true, if_false, List.length_cons, List.length_nil, Nat.zero_add, Nat.reduceAdd, Nat.reduceLeDiff, List.take_succ_cons, List.take_nil, popLoad, loadK, isAggD, Tryd.underlying64, sz64, eq_self, true_and]
   refine hM _ _ ?_
   clear hM M
   refine pops_valloc rfl ze64 (zs := [PV.val (.int .i64 0), PV.val (.string ⟨#[]⟩), PV.val (.bool false), PV.val (.slice none 0 0), PV.val (.slice none 0 0)]) (by kernel_rfl) (by exact Nat.succ_pos _) (fun id14 hid14 => ?_)
   refine pops_mv (.inr rfl) rfl (by simp only [St.eval, upd_at, Nat.reduceEqDiff, if_true, if_false] <;> rfl) ?_
   refine pops_vstore (zs := [PV.val (.int .i64 0), PV.val (.string ⟨#[]⟩), PV.val (.bool false), PV.val (.slice none 0 0), PV.val (.slice none 0 0)]) (hpOk.same hb sl0) hid14 (by simp only [upd_at, Nat.reduceEqDiff, if_true, if_false]) (by simp only [St.eval, slotCells, upd_at, Nat.reduceEqDiff, if_true, if_false] <;> rfl) (by rfl) (by rw [sz64]; rfl) (fun hv15 sv15 => ?_)
   replace sv15 := Same.trans sl0 sv15
   refine pops_done (hR13 _ ?_)
   clear hR13 R13
   try simp only [thenK]
   refine hN12 _ ?_
   clear hN12 N12
   refine pwp_then fun N16 hN16 => ?_
   refine pwp_reg fun R17 hR17 => ?_
   refine pops_mv (.inl rfl) rfl (by simp only [St.eval, upd_at, Nat.reduceEqDiff, if_true, if_false] <;> rfl) ?_
   refine pops_to rfl fun M hM => ?_
   simp only [pop, St.eval, constSlot, upd_at, Nat.reduceEqDiff, if_true, if_false, popBin, binK, intK, eq_self, true_and]
   refine hM _ _ ?_
   clear hM M
   refine pops_mv (.inl rfl) rfl (by simp only [St.eval, upd_at, Nat.reduceEqDiff, if_true, if_false] <;> rfl) ?_
   apply pops_and 4 15 19 [16, 17, 18] (by simp only [upd_at, Nat.reduceEqDiff, if_true, if_false] <;> rfl)
   ·skip
    intro g15_0 J18 hJ18
    simp only [List.take_succ_cons, List.take_zero]
    simp only [anyAt_cons, anyAt_nil] at hJ18
    refine pops_mvg (.inl rfl) rfl rfl (by simp only [upd_at, Nat.reduceEqDiff, if_true, if_false, g15_0]) (by simp only [St.eval, upd_at, Nat.reduceEqDiff, if_false, e0_3, g15_0] <;> rfl) ?_
    refine pops_do rfl rfl (by simp only [upd_at, Nat.reduceEqDiff, if_true, if_false, g15_0]) fun M hM => ?_
    simp only [pop, St.eval, upd_at, Nat.reduceEqDiff, if_true, if_false, List.length_cons, List.length_nil, Nat.zero_add, Nat.reduceAdd, Nat.reduceLeDiff, List.take_succ_cons, List.take_nil, popLoad, loadK, isAggD, Tryd.underlying64, sz64, eq_self, true_and, g15_0]
    refine hM _ _ ?_
    clear hM M
    refine pops_do rfl rfl (by simp only [upd_at, Nat.reduceEqDiff, if_true, if_false, g15_0]) fun M hM => ?_
    simp only [pop, St.eval, constSlot, upd_at, Nat.reduceEqDiff, if_true, if_false, popCall, List.map_nil, svs, List.mapM_cons, List.mapM_nil, Option.bind_eq_bind, Option.bind_some, Option.pure_def, List.append_nil, g15_0]
    refine PFun.use (starR_fun W0 g) fun h1 s1 => hM _ _ ?_
    replace s1 := Same.trans (Same.refl _) s1
    clear hM M
    refine pops_to rfl fun M hM => ?_
    simp only [pop, St.eval, constSlot, upd_at, Nat.reduceEqDiff, if_true, if_false, true_implies, false_implies, Bool.true_eq_false, and_true, g15_0]
    refine hM _ _ ?_
    clear hM M
    exact pops_done (hJ18 _ _ s1 (wk_same (wk_any ((wk_any ((wk_any (Wk.refl _ _))))))))
   ·skip
    intro g15_0 J18 hJ18
    simp only [List.take_succ_cons, List.take_zero]
    simp only [anyAt_cons, anyAt_nil] at hJ18
    refine pops_off (b := false) rfl rfl (by simp only [upd_at, Nat.reduceEqDiff, if_true, if_false, g15_0]) (by decide) ?_
    refine pops_off (b := false) rfl rfl (by simp only [upd_at, Nat.reduceEqDiff, if_true, if_false, g15_0]) (by decide) ?_
    refine pops_off (b := false) rfl rfl (by simp only [upd_at, Nat.reduceEqDiff, if_true, if_false, g15_0]) (by decide) ?_
    refine pops_to rfl fun M hM => ?_
    simp only [pop, St.eval, constSlot, upd_at, Nat.reduceEqDiff, if_true, if_false, true_implies, false_implies, Bool.false_eq_true, true_and, g15_0]
    refine hM _ _ ?_
    clear hM M
    exact pops_done (hJ18 _ _ (Same.refl _) (wk_same (wk_any ((wk_any ((wk_any (Wk.refl _ _))))))))
   simp only [List.drop_succ_cons, List.drop_zero, anyAt_cons, anyAt_nil]
   intro hj18 sj18
   replace sj18 := Same.trans sv15 sj18
   refine pops_mv (.inl rfl) rfl (by simp only [St.eval, upd_at, Nat.reduceEqDiff, if_true, if_false] <;> rfl) ?_
   apply pops_and 8 20 28 [21, 22, 23, 24, 25, 26, 27] (by simp only [upd_at, Nat.reduceEqDiff, if_true, if_false] <;> rfl)
   ·skip
    intro g20_0 J19 hJ19
    simp only [List.take_succ_cons, List.take_zero]
    simp only [anyAt_cons, anyAt_nil] at hJ19
    have hq9 := g20_0
    simp only [Bool.and_eq_true, decide_eq_true_eq] at hq9
    have hi0 : 0 < i := by omega
    have hw24 := wrapp (i := i) (by omega) hi0
    have hgp := encL_prev hi hi0
    rw [encG_eq] at hgp
    refine pops_mvg (.inl rfl) rfl rfl (by simp only [upd_at, Nat.reduceEqDiff, if_true, if_false, g20_0]) (by simp only [St.eval, upd_at, Nat.reduceEqDiff, if_false, e0_3, g20_0] <;> rfl) ?_
    refine pops_mvg (.inl rfl) rfl rfl (by simp only [upd_at, Nat.reduceEqDiff, if_true, if_false, g20_0]) (by simp only [St.eval, upd_at, Nat.reduceEqDiff, if_false, e0_0, g20_0] <;> rfl) ?_
    refine pops_mvg (.inl rfl) rfl rfl (by simp only [upd_at, Nat.reduceEqDiff, if_true, if_false, g20_0]) (by simp only [St.eval, upd_at, Nat.reduceEqDiff, if_true, if_false, g20_0] <;> rfl) ?_
    refine pops_do rfl rfl (by simp only [upd_at, Nat.reduceEqDiff, if_true, if_false, g20_0]) fun M hM => ?_
    simp only [pop, St.eval, constSlot, upd_at, Nat.reduceEqDiff, if_true, if_false, popBin, binK, intK, eq_self, true_and, g20_0, hw24]
    refine hM _ _ ?_
    clear hM M
    refine pops_do rfl rfl (by simp only [upd_at, Nat.reduceEqDiff, if_true, if_false, g20_0]) fun M hM => ?_
    simp only [pop, St.eval, upd_at, Nat.reduceEqDiff, if_true, if_false, popIndexAddr, Tryd.underlying22, sz64, eq_self, true_and, g20_0, hgp, Int.toNat_natCast]
    refine ⟨Int.natCast_nonneg _, hM _ _ ?_⟩
    clear hM M
    refine pops_do rfl rfl (by simp only [upd_at, Nat.reduceEqDiff, if_true, if_false, g20_0]) fun M hM => ?_
    simp only [pop, St.eval, upd_at, Nat.reduceEqDiff, if_true, if_false, List.length_cons, List.length_nil, Nat.zero_add, Nat.reduceAdd, Nat.reduceLeDiff, List.take_succ_cons, List.take_nil, popLoad, loadK, isAggD, Tryd.underlying64, sz64, eq_self, true_and, g20_0]
    refine hM _ _ ?_
    clear hM M
    refine pops_do rfl rfl (by simp only [upd_at, Nat.reduceEqDiff, if_true, if_false, g20_0]) fun M hM => ?_
    simp only [pop, St.eval, constSlot, upd_at, Nat.reduceEqDiff, if_true, if_false, popCall, List.map_nil, svs, List.mapM_cons, List.mapM_nil, Option.bind_eq_bind, Option.bind_some, Option.pure_def, List.append_nil, g20_0]
    refine PFun.use (starR_fun W0 (l.getD (i - 1) dG)) fun h2 s2 => hM _ _ ?_
    replace s2 := Same.trans (Same.refl _) s2
    clear hM M
    refine pops_to rfl fun M hM => ?_
    simp only [pop, St.eval, constSlot, upd_at, Nat.reduceEqDiff, if_true, if_false, true_implies, false_implies, Bool.true_eq_false, and_true, g20_0]
    refine hM _ _ ?_
    clear hM M
    exact pops_done (hJ19 _ _ s2 (wk_same (wk_any ((wk_any ((wk_any ((wk_any ((wk_any ((wk_any ((wk_any (Wk.refl _ _))))))))))))))))
   ·skip
    intro g20_0 J19 hJ19
    simp only [List.take_succ_cons, List.take_zero]
    simp only [anyAt_cons, anyAt_nil] at hJ19
    refine pops_off (b := false) rfl rfl (by simp only [upd_at, Nat.reduceEqDiff, if_true, if_false, g20_0]) (by decide) ?_
    refine pops_off (b := false) rfl rfl (by simp only [upd_at, Nat.reduceEqDiff, if_true, if_false, g20_0]) (by decide) ?_
    refine pops_off (b := false) rfl rfl (by simp only [upd_at, Nat.reduceEqDiff, if_true, if_false, g20_0]) (by decide) ?_
    refine pops_off (b := false) rfl rfl (by simp only [upd_at, Nat.reduceEqDiff, if_true, if_false, g20_0]) (by decide) ?_
    refine pops_off (b := false) rfl rfl (by simp only [upd_at, Nat.reduceEqDiff, if_true, if_false, g20_0]) (by decide) ?_
    refine pops_off (b := false) rfl rfl (by simp only [upd_at, Nat.reduceEqDiff, if_true, if_false, g20_0]) (by decide) ?_
    refine pops_off (b := false) rfl rfl (by simp only [upd_at, Nat.reduceEqDiff, if_true, if_false, g20_0]) (by decide) ?_
    refine pops_to rfl fun M hM => ?_
    simp only [pop, St.eval, constSlot, upd_at, Nat.reduceEqDiff, if_true, if_false, true_implies, false_implies, Bool.false_eq_true, true_and, g20_0]
    refine hM _ _ ?_
    clear hM M
    exact pops_done (hJ19 _ _ (Same.refl _) (wk_same (wk_any ((wk_any ((wk_any ((wk_any ((wk_any ((wk_any ((wk_any (Wk.refl _ _))))))))))))))))
   simp only [List.drop_succ_cons, List.drop_zero, anyAt_cons, anyAt_nil]
   intro hj19 sj19
   replace sj19 := Same.trans sj18 sj19
   refine pops_mv (.inl rfl) rfl (by simp only [St.eval, upd_at, Nat.reduceEqDiff, if_true, if_false] <;> rfl) ?_
   apply pops_or 4 29 33 [30, 31, 32] (by simp only [upd_at, Nat.reduceEqDiff, if_true, if_false] <;> rfl)
   ·skip
    intro g29_0 J20 hJ20
    simp only [List.take_succ_cons, List.take_zero]
    simp only [anyAt_cons, anyAt_nil] at hJ20
    refine pops_do rfl rfl (by simp only [upd_at, Nat.reduceEqDiff, if_true, if_false, g29_0]) fun M hM => ?_
    simp only [pop, St.eval, upd_at, Nat.reduceEqDiff, if_true, if_false, popFieldAddr, fieldOf, List.drop_succ_cons, List.drop_zero, List.getElem?_toArray, List.getElem?_cons_zero, List.getElem?_cons_succ, Tryd.underlying64, sz62, g29_0]
    refine ⟨⟨_, rfl⟩, hM _ _ ?_⟩
    clear hM M
    refine pops_do rfl rfl (by simp only [upd_at, Nat.reduceEqDiff, if_true, if_false, g29_0]) fun M hM => ?_
    simp only [pop, St.eval, upd_at, Nat.reduceEqDiff, if_true, if_false, popLoad, loadK, isAggD, Bool.false_eq_true, Tryd.underlying62, sz62, eq_self, g29_0]
    refine hM _ _ ?_
    clear hM M
    refine pops_do rfl rfl (by simp only [upd_at, Nat.reduceEqDiff, if_true, if_false, g29_0]) fun M hM => ?_
    simp only [pop, St.eval, constSlot, upd_at, Nat.reduceEqDiff, if_true, if_false, popCall, List.map_nil, svs, List.mapM_cons, List.mapM_nil, Option.bind_eq_bind, Option.bind_some, Option.pure_def, List.append_nil, g29_0]
    refine PFun.use (anyWays_fun W0 g.ways (by omega) hways) fun h3 s3 => hM _ _ ?_
    replace s3 := Same.trans (Same.refl _) s3
    clear hM M
    refine pops_to rfl fun M hM => ?_
    simp only [pop, St.eval, constSlot, upd_at, Nat.reduceEqDiff, if_true, if_false, true_implies, false_implies, Bool.false_eq_true, true_and, g29_0]
    refine hM _ _ ?_
    clear hM M
    exact pops_done (hJ20 _ _ s3 (wk_same (wk_any ((wk_any ((wk_any (Wk.refl _ _))))))))
   ·skip
    intro g29_0 J20 hJ20
    simp only [List.take_succ_cons, List.take_zero]
    simp only [anyAt_cons, anyAt_nil] at hJ20
    refine pops_off (b := true) rfl rfl (by simp only [upd_at, Nat.reduceEqDiff, if_true, if_false, g29_0]) (by decide) ?_
    refine pops_off (b := true) rfl rfl (by simp only [upd_at, Nat.reduceEqDiff, if_true, if_false, g29_0]) (by decide) ?_
    refine pops_off (b := true) rfl rfl (by simp only [upd_at, Nat.reduceEqDiff, if_true, if_false, g29_0]) (by decide) ?_
    refine pops_to rfl fun M hM => ?_
    simp only [pop, St.eval, constSlot, upd_at, Nat.reduceEqDiff, if_true, if_false, true_implies, false_implies, Bool.true_eq_false, and_true, g29_0]
    refine hM _ _ ?_
    clear hM M
    exact pops_done (hJ20 _ _ (Same.refl _) (wk_same (wk_any ((wk_any ((wk_any (Wk.refl _ _))))))))
   simp only [List.drop_succ_cons, List.drop_zero, anyAt_cons, anyAt_nil]
   intro hj20 sj20
   replace sj20 := Same.trans sj19 sj20
   refine pops_done (hR17 _ ?_)
   clear hR17 R17
   try simp only [thenK]
   refine hN16 _ ?_
   clear hN16 N16
   refine pwp_cond (by simp only [St.eval, upd_at, Nat.reduceEqDiff, if_true, if_false] <;> rfl) (fun c33 => ?_) (fun c33 => ?_)
   ·skip
    have hs : ((starAt l i && starB g) || stW g.ways) = true := by
      rw [← c33]
      unfold starAt
      have e : decide (0 < i) = decide ((i : Int) > 0) := decide_eq_decide.2 (by omega)
      rw [e, Bool.and_right_comm]
    rw [hs, Bool.true_or] at hst
    refine pwp_then fun N21 hN21 => ?_
    refine pwp_reg fun R22 hR22 => ?_
    refine pops_mv (.inr rfl) rfl (by simp only [St.eval, constSlot] <;> rfl) ?_
    refine pops_done (hR22 _ ?_)
    clear hR22 R22
    try simp only [thenK]
    refine hN21 _ ?_
    clear hN21 N21
    refine pwp_ret ?_
    simp only [thenK, blockK, bodyK]
    clear hN11 N11 hN5 N5
    refine ⟨_, rfl, endFun sj20 ?_⟩
    try simp only [upd_at, Nat.reduceEqDiff, if_true, if_false]
    all_goals
     rw [hst]
   ·skip
    have hs : ((starAt l i && starB g) || stW g.ways) = false := by
      rw [← c33]
      unfold starAt
      have e : decide (0 < i) = decide ((i : Int) > 0) := decide_eq_decide.2 (by omega)
      rw [e, Bool.and_right_comm]
    rw [hs, Bool.false_or] at hst
    refine pwp_skip ?_
    try simp only [blockK, thenK]
    try simp only [thenK, scopeK]
    refine hN11 _ ?_
    clear hN11 N11
    refine pwp_reg fun R23 hR23 => ?_
    refine pops_to rfl fun M hM => ?_
    simp only [pop, St.eval, constSlot, upd_at, Nat.reduceEqDiff, if_false, popBin, binK, intK, eq_self, true_and, e0_8]
    refine hM _ _ ?_
    clear hM M
    refine pops_mv (.inl rfl) rfl (by simp only [St.eval, upd_at, Nat.reduceEqDiff, if_true, if_false] <;> rfl) ?_
    refine pops_done (hR23 _ ?_)
    clear hR23 R23
    try simp only [thenK]
    exact ⟨_, by omega, _, .refl _ _, i + 1, rfl, by omega, hst.symm, sj20, by simp only [upd_at, Nat.reduceEqDiff, if_false, e0_0], by simp only [upd_at, Nat.reduceEqDiff, if_false, e0_3], by simp only [upd_at, Nat.reduceEqDiff, if_false, e0_6], by simp only [upd_at, Nat.reduceEqDiff, if_false, e0_7], by simp only [upd_at, Nat.reduceEqDiff, if_true, if_false, e0_8]; rw [wrap_succ (by omega)]⟩
  ·skip
   obtain rfl : i = l.length := by have := of_decide_eq_false c9; omega
   rw [List.drop_length, stL] at hx0_1
   have hst := hx0_1.symm
   refine pwp_exit ?_
   try simp only [thenK, blockK, if_true]
   clear hN10 N10
   try simp only [blockK, scopeK, if_true, Nat.reduceEqDiff, if_false, thenK]
   try simp only [thenK, scopeK]
   refine hN5 _ ?_
   clear hN5 N5
   refine pwp_then fun N24 hN24 => ?_
   refine pwp_reg fun R25 hR25 => ?_
   refine pops_mv (.inr rfl) rfl (by simp only [St.eval, constSlot] <;> rfl) ?_
   refine pops_done (hR25 _ ?_)
   clear hR25 R25
   try simp only [thenK]
   refine hN24 _ ?_
   clear hN24 N24
   refine pwp_ret ?_
   simp only [bodyK]
   refine ⟨_, rfl, endFun sl0 ?_⟩
   try simp only [upd_at, Nat.reduceEqDiff, if_true, if_false]
   all_goals
    rw [hst]
theorem nm98 : (Tryd.f98.name == "runtime.NumGoroutine") = false := by kernel_rfl
theorem one_fun (W0 : World) (n : Int) :
  PFun Tryd.prog W0 98 [.one (pint n)] (.sv (.one (pstr (bnd n)))) := by
 intro h
 refine pcalls1 (n := 15) Tryd.func98 rfl nm98 rfl fun hb => ?_
 refine pwp_then fun N1 hN1 => ?_
 refine pwp_reg fun R2 hR2 => ?_
 refine pops_mv (.inr rfl) rfl (by simp only [St.eval, constSlot] <;> rfl) ?_
 refine pops_done (hR2 _ ?_)
 clear hR2 R2
 try simp only [thenK]
 refine hN1 _ ?_
 clear hN1 N1
 refine pwp_then fun N3 hN3 => ?_
 refine pwp_reg fun R4 hR4 => ?_
 refine pops_mv (.inl rfl) rfl (by simp only [St.eval, upd_at, Nat.reduceEqDiff, if_true, if_false] <;> rfl) ?_
 refine pops_to rfl fun M hM => ?_
 simp only [pop, St.eval, upd_at, Nat.reduceEqDiff, if_true, if_false, popConvert, Tryd.underlying3, Tryd.underlying5, eq_self, u8_modJ]
 refine hM _ _ ?_
 clear hM M
 refine pops_to rfl fun M hM => ?_
 simp only [pop, St.eval, constSlot, upd_at, Nat.reduceEqDiff, if_true, if_false, popBuildSlice, slotCells, List.map_cons, List.map_nil, List.mapM_cons, List.mapM_nil, Option.bind_eq_bind, Option.bind_some, Option.pure_def, Tryd.underlying92, sz5, ze5, eq_self]
 refine ⟨by decide, by decide, rfl, rfl, by simp, by decide, rfl, hM _ _ ?_⟩
 clear hM M
 refine pops_to rfl fun M hM => ?_
 simp only [pop, St.eval, upd_at, Nat.reduceEqDiff, if_true, if_false, eq_self]
 refine str_ofJ (l := [UInt8.ofNat (n % 256).toNat]) Tryd.underlying9 Tryd.underlying92 Tryd.underlying5 (hM _ _ ?_)
 clear hM M
 refine pops_mv (.inr rfl) rfl (by simp only [St.eval, upd_at, Nat.reduceEqDiff, if_true, if_false] <;> rfl) ?_
 refine pops_done (hR4 _ ?_)
 clear hR4 R4
 try simp only [thenK]
 refine hN3 _ ?_
 clear hN3 N3
 refine pwp_then fun N5 hN5 => ?_
 refine pwp_then fun N6 hN6 => ?_
 refine pwp_reg fun R7 hR7 => ?_
 refine pops_mv (.inl rfl) rfl (by simp only [St.eval, upd_at, Nat.reduceEqDiff, if_true, if_false] <;> rfl) ?_
 refine pops_to rfl fun M hM => ?_
 simp only [pop, St.eval, upd_at, Nat.reduceEqDiff, if_true, if_false, popConvert, Tryd.underlying3, Tryd.underlying5, eq_self, u8_modJ]
 refine hM _ _ ?_
 clear hM M
 refine pops_to rfl fun M hM => ?_
 simp only [pop, St.eval, constSlot, upd_at, Nat.reduceEqDiff, if_true, if_false, popCall, List.map_nil, svs, List.mapM_cons, List.mapM_nil, Option.bind_eq_bind, Option.bind_some, Option.pure_def, List.append_nil]
 refine PFun.use (indexByte_fun W0 [92, 93, 94, 45] (UInt8.ofNat (n % 256).toNat)) fun h1 s1 => hM _ _ ?_
 replace s1 := Same.trans (Same.refl _) s1
 clear hM M
 refine pops_to rfl fun M hM => ?_
 simp only [pop, St.eval, constSlot, upd_at, Nat.reduceEqDiff, if_true, if_false, popBin, binK, intK, eq_self, true_and]
 refine hM _ _ ?_
 clear hM M
 refine pops_done (hR7 _ ?_)
 clear hR7 R7
 try simp only [thenK]
 refine hN6 _ ?_
 clear hN6 N6
 refine pwp_cond (by simp only [St.eval, upd_at, Nat.reduceEqDiff, if_true, if_false] <;> rfl) (fun c11 => ?_) (fun c11 => ?_)
 ·skip
  rw [ix_has] at c11
  have hb := bnd_1 c11
  refine pwp_then fun N8 hN8 => ?_
  refine pwp_reg fun R9 hR9 => ?_
  refine pops_mv (.inl rfl) rfl (by simp only [St.eval, upd_at, Nat.reduceEqDiff, if_true, if_false] <;> rfl) ?_
  refine pops_to rfl fun M hM => ?_
  simp only [pop, St.eval, constSlot, upd_at, Nat.reduceEqDiff, if_true, if_false, popBin, binK, strK, eq_self, str_size, str_app]
  refine ⟨by first | omega | (simp only [List.length_cons, List.length_nil]; omega), hM _ _ ?_⟩
  clear hM M
  refine pops_mv (.inr rfl) rfl (by simp only [St.eval, upd_at, Nat.reduceEqDiff, if_true, if_false] <;> rfl) ?_
  refine pops_done (hR9 _ ?_)
  clear hR9 R9
  try simp only [thenK]
  refine hN8 _ ?_
  clear hN8 N8
  refine pwp_ret ?_
  simp only [thenK, bodyK]
  clear hN5 N5
  refine ⟨_, rfl, endFun s1 ?_⟩
  try simp only [upd_at, Nat.reduceEqDiff, if_true, if_false]
  all_goals
   first | (rw [hb]; done) | (rw [hb]; rfl)
 ·skip
  rw [ix_has] at c11
  have hb := bnd_0 c11
  refine pwp_skip ?_
  try simp only [thenK]
  refine hN5 _ ?_
  clear hN5 N5
  refine pwp_then fun N10 hN10 => ?_
  refine pwp_reg fun R11 hR11 => ?_
  refine pops_mv (.inl rfl) rfl (by simp only [St.eval, upd_at, Nat.reduceEqDiff, if_true, if_false] <;> rfl) ?_
  refine pops_mv (.inr rfl) rfl (by simp only [St.eval, upd_at, Nat.reduceEqDiff, if_true, if_false] <;> rfl) ?_
  refine pops_done (hR11 _ ?_)
  clear hR11 R11
  try simp only [thenK]
  refine hN10 _ ?_
  clear hN10 N10
  refine pwp_ret ?_
  simp only [bodyK]
  refine ⟨_, rfl, endFun s1 ?_⟩
  try simp only [upd_at, Nat.reduceEqDiff, if_true, if_false]
  all_goals
   first | (rw [hb]; done) | (rw [hb]; rfl)
theorem nm77 : (Tryd.f77.name == "runtime.NumGoroutine") = false := by kernel_rfl
set_option maxHeartbeats 2000000 in
theorem showSet_fun (W0 : World) (g : GPart) (hr : ∀ x ∈ g.ranges, rngBad x = false) (hrn : g.ranges.length ≤ 1048576) :
  PFun Tryd.prog W0 77 [.agg [pint g.kind, pstr g.text, pbool g.neg, .ro false 2 (rngPV g.ranges), .ro false 1 (encW g.ways)]] (.sv (.one (pstr (showS g.neg g.ranges)))) := by
 intro h
 refine pcalls1 (n := 46) Tryd.func77 rfl nm77 rfl fun hb => ?_
 refine pwp_then fun N1 hN1 => ?_
 refine pwp_reg fun R2 hR2 => ?_
 refine pops_to rfl fun M hM => ?_
 simp only [pop, St.eval, upd_at, if_true, popBox, popBoxRo, slotCells]
 refine .inr ⟨Nat.succ_pos _, hM _ _ ?_⟩
 clear hM M
 refine pops_mv (.inr rfl) rfl (by simp only [St.eval, constSlot] <;> rfl) ?_
 refine pops_done (hR2 _ ?_)
 clear hR2 R2
 try simp only [thenK]
 refine hN1 _ ?_
 clear hN1 N1
 refine pwp_then fun N3 hN3 => ?_
 refine pwp_reg fun R4 hR4 => ?_
 refine pops_mv (.inr rfl) rfl (by simp only [St.eval] <;> rfl) ?_
 refine pops_done (hR4 _ ?_)
 clear hR4 R4
 try simp only [thenK]
 refine hN3 _ ?_
 clear hN3 N3
 refine pwp_then fun N5 hN5 => ?_
 refine pwp_reg fun R6 hR6 => ?_
 refine pops_mv (.inr rfl) rfl (by simp only [St.eval, constSlot] <;> rfl) ?_
 refine pops_done (hR6 _ ?_)
 clear hR6 R6
 try simp only [thenK]
 refine hN5 _ ?_
 clear hN5 N5
 refine pwp_then fun N7 hN7 => ?_
 refine pwp_then fun N8 hN8 => ?_
 refine pwp_reg fun R9 hR9 => ?_
 refine pops_to rfl fun M hM => ?_
 simp only [pop, St.eval, upd_at, Nat.reduceEqDiff, if_true, if_false, popFieldAddr, fieldOf, List.drop_succ_cons, List.drop_zero, List.getElem?_toArray, List.getElem?_cons_zero, List.getElem?_cons_succ, Tryd.underlying64, sz4]
 refine ⟨⟨_, rfl⟩, hM _ _ ?_⟩
 clear hM M
 refine pops_to rfl fun M hM => ?_
 simp only [pop, St.eval, upd_at, Nat.reduceEqDiff, if_true, if_false, popLoad, loadK, isAggD, Bool.false_eq_true, Tryd.underlying4, sz4, eq_self]
 refine hM _ _ ?_
 clear hM M
 refine pops_done (hR9 _ ?_)
 clear hR9 R9
 try simp only [thenK]
 refine hN8 _ ?_
 clear hN8 N8
 refine pwp_cond (by simp only [St.eval, upd_at, Nat.reduceEqDiff, if_true, if_false] <;> rfl) (fun c8 => ?_) (fun c8 => ?_)
 ·skip
  have hng : g.neg = true := c8
  refine pwp_reg fun R10 hR10 => ?_
  refine pops_mv (.inl rfl) rfl (by simp only [St.eval, upd_at, Nat.reduceEqDiff, if_true, if_false] <;> rfl) ?_
  refine pops_to rfl fun M hM => ?_
  simp only [pop, St.eval, constSlot, upd_at, Nat.reduceEqDiff, if_true, if_false, popBin, binK, strK, eq_self, str_size, str_app]
  refine ⟨by first | omega | (simp only [List.length_cons, List.length_nil]; omega), hM _ _ ?_⟩
  clear hM M
  refine pops_mv (.inr rfl) rfl (by simp only [St.eval, upd_at, Nat.reduceEqDiff, if_true, if_false] <;> rfl) ?_
  refine pops_done (hR10 _ ?_)
  clear hR10 R10
  try simp only [thenK]
  refine hN7 _ ?_
  clear hN7 N7
  refine pwp_then fun N11 hN11 => ?_
  refine pwp_then fun N12 hN12 => ?_
  refine pwp_reg fun R13 hR13 => ?_
  refine pops_to rfl fun M hM => ?_
  simp only [pop, St.eval, upd_at, Nat.reduceEqDiff, if_true, if_false, popFieldAddr, fieldOf, List.drop_succ_cons, List.drop_zero, List.getElem?_toArray, List.getElem?_cons_zero, List.getElem?_cons_succ, Tryd.underlying64, sz61]
  refine ⟨⟨_, rfl⟩, hM _ _ ?_⟩
  clear hM M
  refine pops_to rfl fun M hM => ?_
  simp only [pop, St.eval, upd_at, Nat.reduceEqDiff, if_true, if_false, popLoad, loadK, isAggD, Bool.false_eq_true, Tryd.underlying61, sz61, eq_self]
  refine hM _ _ ?_
  clear hM M
  refine pops_to rfl fun M hM => ?_
  simp only [pop, St.eval, upd_at, Nat.reduceEqDiff, if_true, if_false, popCall, List.map_cons, List.map_nil, popBuiltin, popLen, lenOfSlot, List.length_map, Tryd.underlying61, eq_self, List.length_map]
  refine hM _ _ ?_
  clear hM M
  refine pops_mv (.inl rfl) rfl (by simp only [St.eval, constSlot] <;> rfl) ?_
  refine pops_done (hR13 _ ?_)
  clear hR13 R13
  try simp only [thenK]
  refine hN12 _ ?_
  clear hN12 N12
  refine pwp_block ?_
  refine pwp_loop (fun k σ => ∃ (i : Nat), (k = g.ranges.length - i) ∧ (i ≤ g.ranges.length) ∧ (Same h σ.hp) ∧ (σ.env 3 = .sv (.one (.clo (.func 98) []))) ∧ (σ.env 4 = .sv (.one (pstr (setT0 g.neg (g.ranges.take i))))) ∧ (σ.env 12 = .sv (.one (.ro false 2 (rngPV g.ranges)))) ∧ (σ.env 13 = .sv (.one (pint (g.ranges.length : Nat)))) ∧ (σ.env 14 = .sv (.one (pint (i : Nat))))) _ ⟨_, .refl _ _, 0, rfl, ?_⟩ ?_
  · exact ⟨Nat.zero_le _, (Same.refl _), by simp only [upd_at, Nat.reduceEqDiff, if_true, if_false], by simp only [upd_at, Nat.reduceEqDiff, if_true, if_false, hng, setT0]; rfl, by simp only [upd_at, Nat.reduceEqDiff, if_true, if_false], by first | rfl | (simp only [upd_at, Nat.reduceEqDiff, if_true, if_false]; rfl), by first | rfl | (simp only [upd_at, Nat.reduceEqDiff, if_true, if_false]; rfl)⟩
  ·rintro k ⟨e, hp0⟩ ⟨i, hk0, hx0_0, sl0, e0_3, e0_4, e0_12, e0_13, e0_14⟩
   simp only at sl0 e0_3 e0_4 e0_12 e0_13 e0_14
   refine pwp_then fun N14 hN14 => ?_
   refine pwp_reg fun R15 hR15 => ?_
   refine pops_to rfl fun M hM => ?_
   simp only [pop, St.eval, popBin, binK, intK, eq_self, true_and, e0_13, e0_14]
   refine hM _ _ ?_
   clear hM M
   refine pops_done (hR15 _ ?_)
   clear hR15 R15
   try simp only [thenK]
   refine hN14 _ ?_
   clear hN14 N14
   refine pwp_then fun N16 hN16 => ?_
   refine pwp_cond (by simp only [St.eval, upd_at, if_true] <;> rfl) (fun c15 => ?_) (fun c15 => ?_)
   ·skip
    have hi : i < g.ranges.length := by have := of_decide_eq_true c15; omega
    obtain ⟨x, hx⟩ : ∃ x, g.ranges[i]? = some x := ⟨_, List.getElem?_eq_getElem hi⟩
    have hget := rng_at hx
    have hgood := hr x (List.mem_of_getElem? hx)
    simp only [rngBad, Bool.or_eq_false_iff, decide_eq_false_iff_not] at hgood
    have hw28 : IntKind.i64.wrap (x.1 + 1) = x.1 + 1 := wrap_i64 (by omega) (by omega)
    have hsl := set_len g.neg (g.ranges.take i)
    rw [List.length_take] at hsl
    have hb1 := bnd_len x.1
    have hb2 := bnd_len x.2
    have hst := set_step (neg := g.neg) hx
    refine pwp_skip ?_
    try simp only [thenK]
    refine hN16 _ ?_
    clear hN16 N16
    refine pwp_then fun N17 hN17 => ?_
    refine pwp_block ?_
    refine pwp_then fun N18 hN18 => ?_
    refine pwp_reg fun R19 hR19 => ?_
    refine pops_to rfl fun M hM => ?_
    simp only [pop, St.eval, upd_at, Nat.reduceEqDiff, if_false, popIndexAddr, Tryd.underlying61, sz67, eq_self, true_and, e0_12, e0_14, hget, Int.toNat_natCast]
    refine ⟨Int.natCast_nonneg _, hM _ _ ?_⟩
    clear hM M
    refine pops_to rfl fun M hM => ?_
    simp only [pop, St.eval, upd_at, Nat.reduceEqDiff, if_true, if_false, List.length_cons, List.length_nil, Nat.zero_add, Nat.reduceAdd, Nat.reduceLeDiff, List.take_succ_cons, List.take_nil, popLoad, loadK, isAggD, Tryd.underlying67, sz67, eq_self, true_and]
    refine hM _ _ ?_
    clear hM M
    refine pops_var (hpOk.same hb sl0) rfl ze67 (zs := [PV.val (.int .i64 0), PV.val (.int .i64 0)]) (by kernel_rfl) (by simp) (by simp only [St.eval, slotCells, upd_at, Nat.reduceEqDiff, if_true, if_false] <;> rfl) (by rfl) (by exact Nat.succ_pos _) (by rw [sz67]; rfl) (fun hv20 sv20 => ?_)
    replace sv20 := Same.trans sl0 sv20
    refine pops_done (hR19 _ ?_)
    clear hR19 R19
    try simp only [thenK]
    refine hN18 _ ?_
    clear hN18 N18
    refine pwp_then fun N21 hN21 => ?_
    refine pwp_reg fun R22 hR22 => ?_
    refine pops_mv (.inl rfl) rfl (by simp only [St.eval, upd_at, Nat.reduceEqDiff, if_false, e0_4] <;> rfl) ?_
    refine pops_mv (.inl rfl) rfl (by simp only [St.eval, upd_at, Nat.reduceEqDiff, if_false, e0_3] <;> rfl) ?_
    refine pops_to rfl fun M hM => ?_
    simp only [pop, St.eval, constSlot, upd_at, Nat.reduceEqDiff, if_true, if_false, popIndexAddr, Tryd.underlying67, sz3, eq_self]
    refine ⟨by decide, by decide, hM _ _ ?_⟩
    clear hM M
    refine pops_to rfl fun M hM => ?_
    simp only [pop, St.eval, upd_at, Nat.reduceEqDiff, if_true, if_false, popLoad, loadK, isAggD, Bool.false_eq_true, Tryd.underlying3, sz3, eq_self]
    refine hM _ _ ?_
    clear hM M
    refine pops_to rfl fun M hM => ?_
    simp only [pop, St.eval, constSlot, upd_at, Nat.reduceEqDiff, if_true, if_false, popCall, List.map_nil, svs, List.mapM_cons, List.mapM_nil, Option.bind_eq_bind, Option.bind_some, Option.pure_def, List.append_nil]
    refine PFun.use (one_fun W0 x.1) fun h1 s1 => hM _ _ ?_
    replace s1 := Same.trans sv20 s1
    clear hM M
    refine pops_to rfl fun M hM => ?_
    simp only [pop, St.eval, upd_at, Nat.reduceEqDiff, if_true, if_false, popBin, binK, strK, eq_self, str_size, str_app]
    refine ⟨by first | omega | (simp only [List.length_append, List.length_take, List.length_cons, List.length_nil]; omega), hM _ _ ?_⟩
    clear hM M
    refine pops_mv (.inr rfl) rfl (by simp only [St.eval, upd_at, Nat.reduceEqDiff, if_true, if_false] <;> rfl) ?_
    refine pops_done (hR22 _ ?_)
    clear hR22 R22
    try simp only [thenK]
    refine hN21 _ ?_
    clear hN21 N21
    refine pwp_then fun N23 hN23 => ?_
    refine pwp_then fun N24 hN24 => ?_
    refine pwp_reg fun R25 hR25 => ?_
    refine pops_to rfl fun M hM => ?_
    simp only [pop, St.eval, constSlot, upd_at, Nat.reduceEqDiff, if_true, if_false, popIndexAddr, Tryd.underlying67, sz3, eq_self]
    refine ⟨by decide, by decide, hM _ _ ?_⟩
    clear hM M
    refine pops_to rfl fun M hM => ?_
    simp only [pop, St.eval, upd_at, Nat.reduceEqDiff, if_true, if_false, popLoad, loadK, isAggD, Bool.false_eq_true, Tryd.underlying3, sz3, eq_self]
    refine hM _ _ ?_
    clear hM M
    refine pops_to rfl fun M hM => ?_
    simp only [pop, St.eval, constSlot, upd_at, Nat.reduceEqDiff, if_true, if_false, popIndexAddr, Tryd.underlying67, sz3, eq_self]
    refine ⟨by decide, by decide, hM _ _ ?_⟩
    clear hM M
    refine pops_to rfl fun M hM => ?_
    simp only [pop, St.eval, upd_at, Nat.reduceEqDiff, if_true, if_false, popLoad, loadK, isAggD, Bool.false_eq_true, Tryd.underlying3, sz3, eq_self]
    refine hM _ _ ?_
    clear hM M
    refine pops_to rfl fun M hM => ?_
    simp only [pop, St.eval, constSlot, upd_at, Nat.reduceEqDiff, if_true, if_false, popBin, binK, intK, eq_self, true_and, hw28]
    refine hM _ _ ?_
    clear hM M
    refine pops_to rfl fun M hM => ?_
    simp only [pop, St.eval, upd_at, Nat.reduceEqDiff, if_true, if_false, popBin, binK, intK, eq_self, true_and]
    refine hM _ _ ?_
    clear hM M
    refine pops_done (hR25 _ ?_)
    clear hR25 R25
    try simp only [thenK]
    refine hN24 _ ?_
    clear hN24 N24
    refine pwp_cond (by simp only [St.eval, upd_at, Nat.reduceEqDiff, if_true, if_false] <;> rfl) (fun c29 => ?_) (fun c29 => ?_)
    ·skip
     have hg1 := of_decide_eq_true c29
     refine pwp_reg fun R26 hR26 => ?_
     refine pops_mv (.inl rfl) rfl (by simp only [St.eval, upd_at, Nat.reduceEqDiff, if_true, if_false, e0_4] <;> rfl) ?_
     refine pops_to rfl fun M hM => ?_
     simp only [pop, St.eval, constSlot, upd_at, Nat.reduceEqDiff, if_true, if_false, popBin, binK, strK, eq_self, str_size, str_app]
     refine ⟨by first | omega | (simp only [List.length_append, List.length_cons, List.length_nil]; omega), hM _ _ ?_⟩
     clear hM M
     refine pops_mv (.inr rfl) rfl (by simp only [St.eval, upd_at, Nat.reduceEqDiff, if_true, if_false] <;> rfl) ?_
     refine pops_done (hR26 _ ?_)
     clear hR26 R26
     try simp only [thenK]
     refine hN23 _ ?_
     clear hN23 N23
     refine pwp_then fun N27 hN27 => ?_
     refine pwp_reg fun R28 hR28 => ?_
     refine pops_to rfl fun M hM => ?_
     simp only [pop, St.eval, constSlot, upd_at, Nat.reduceEqDiff, if_true, if_false, popIndexAddr, Tryd.underlying67, sz3, eq_self]
     refine ⟨by decide, by decide, hM _ _ ?_⟩
     clear hM M
     refine pops_to rfl fun M hM => ?_
     simp only [pop, St.eval, upd_at, Nat.reduceEqDiff, if_true, if_false, popLoad, loadK, isAggD, Bool.false_eq_true, Tryd.underlying3, sz3, eq_self]
     refine hM _ _ ?_
     clear hM M
     refine pops_to rfl fun M hM => ?_
     simp only [pop, St.eval, constSlot, upd_at, Nat.reduceEqDiff, if_true, if_false, popIndexAddr, Tryd.underlying67, sz3, eq_self]
     refine ⟨by decide, by decide, hM _ _ ?_⟩
     clear hM M
     refine pops_to rfl fun M hM => ?_
     simp only [pop, St.eval, upd_at, Nat.reduceEqDiff, if_true, if_false, popLoad, loadK, isAggD, Bool.false_eq_true, Tryd.underlying3, sz3, eq_self]
     refine hM _ _ ?_
     clear hM M
     refine pops_to rfl fun M hM => ?_
     simp only [pop, St.eval, upd_at, Nat.reduceEqDiff, if_true, if_false, popBin, binK, intK, eq_self, true_and]
     refine hM _ _ ?_
     clear hM M
     refine pops_done (hR28 _ ?_)
     clear hR28 R28
     try simp only [thenK]
     refine hN27 _ ?_
     clear hN27 N27
     refine pwp_cond (by simp only [St.eval, upd_at, Nat.reduceEqDiff, if_true, if_false] <;> rfl) (fun c36 => ?_) (fun c36 => ?_)
     ·skip
      have hg2 := of_decide_eq_true c36
      refine pwp_reg fun R29 hR29 => ?_
      refine pops_mv (.inl rfl) rfl (by simp only [St.eval, upd_at, Nat.reduceEqDiff, if_true, if_false, e0_4] <;> rfl) ?_
      refine pops_mv (.inl rfl) rfl (by simp only [St.eval, upd_at, Nat.reduceEqDiff, if_false, e0_3] <;> rfl) ?_
      refine pops_to rfl fun M hM => ?_
      simp only [pop, St.eval, constSlot, upd_at, Nat.reduceEqDiff, if_true, if_false, popIndexAddr, Tryd.underlying67, sz3, eq_self]
      refine ⟨by decide, by decide, hM _ _ ?_⟩
      clear hM M
      refine pops_to rfl fun M hM => ?_
      simp only [pop, St.eval, upd_at, Nat.reduceEqDiff, if_true, if_false, popLoad, loadK, isAggD, Bool.false_eq_true, Tryd.underlying3, sz3, eq_self]
      refine hM _ _ ?_
      clear hM M
      refine pops_to rfl fun M hM => ?_
      simp only [pop, St.eval, constSlot, upd_at, Nat.reduceEqDiff, if_true, if_false, popCall, List.map_nil, svs, List.mapM_cons, List.mapM_nil, Option.bind_eq_bind, Option.bind_some, Option.pure_def, List.append_nil]
      refine PFun.use (one_fun W0 x.2) fun h2 s2 => hM _ _ ?_
      replace s2 := Same.trans s1 s2
      clear hM M
      refine pops_to rfl fun M hM => ?_
      simp only [pop, St.eval, upd_at, Nat.reduceEqDiff, if_true, if_false, popBin, binK, strK, eq_self, str_size, str_app]
      refine ⟨by first | omega | (simp only [List.length_append, List.length_cons, List.length_nil]; omega), hM _ _ ?_⟩
      clear hM M
      refine pops_mv (.inr rfl) rfl (by simp only [St.eval, upd_at, Nat.reduceEqDiff, if_true, if_false] <;> rfl) ?_
      refine pops_done (hR29 _ ?_)
      clear hR29 R29
      try simp only [blockK, thenK]
      try simp only [thenK, scopeK]
      refine hN17 _ ?_
      clear hN17 N17
      refine pwp_reg fun R30 hR30 => ?_
      refine pops_to rfl fun M hM => ?_
      simp only [pop, St.eval, constSlot, upd_at, Nat.reduceEqDiff, if_false, popBin, binK, intK, eq_self, true_and, e0_14]
      refine hM _ _ ?_
      clear hM M
      refine pops_mv (.inl rfl) rfl (by simp only [St.eval, upd_at, Nat.reduceEqDiff, if_true, if_false] <;> rfl) ?_
      refine pops_done (hR30 _ ?_)
      clear hR30 R30
      try simp only [thenK]
      exact ⟨_, by omega, _, .refl _ _, i + 1, rfl, by omega, s2, by simp only [upd_at, Nat.reduceEqDiff, if_false, e0_3], by first | (simp only [upd_at, Nat.reduceEqDiff, if_true, if_false, hst, shR_1 hg1]; simp; done) | (simp only [upd_at, Nat.reduceEqDiff, if_true, if_false, hst, shR_2 hg1 hg2]; simp; done) | (simp only [upd_at, Nat.reduceEqDiff, if_true, if_false, hst, shR_3 hg1 hg2]; done) | (simp only [upd_at, Nat.reduceEqDiff, if_true, if_false, hst, shR_3 hg1 hg2]; simp; done) | (exfalso; omega), by simp only [upd_at, Nat.reduceEqDiff, if_false, e0_12], by simp only [upd_at, Nat.reduceEqDiff, if_false, e0_13], by simp only [upd_at, Nat.reduceEqDiff, if_true, if_false, e0_14]; rw [wrap_succ (by omega)]⟩
     ·skip
      have hg2 := of_decide_eq_false c36
      refine pwp_skip ?_
      try simp only [blockK, thenK]
      try simp only [thenK, scopeK]
      refine hN17 _ ?_
      clear hN17 N17
      refine pwp_reg fun R31 hR31 => ?_
      refine pops_to rfl fun M hM => ?_
      simp only [pop, St.eval, constSlot, upd_at, Nat.reduceEqDiff, if_false, popBin, binK, intK, eq_self, true_and, e0_14]
      refine hM _ _ ?_
      clear hM M
      refine pops_mv (.inl rfl) rfl (by simp only [St.eval, upd_at, Nat.reduceEqDiff, if_true, if_false] <;> rfl) ?_
      refine pops_done (hR31 _ ?_)
      clear hR31 R31
      try simp only [thenK]
      exact ⟨_, by omega, _, .refl _ _, i + 1, rfl, by omega, s1, by simp only [upd_at, Nat.reduceEqDiff, if_false, e0_3], by first | (simp only [upd_at, Nat.reduceEqDiff, if_true, if_false, hst, shR_1 hg1]; simp; done) | (simp only [upd_at, Nat.reduceEqDiff, if_true, if_false, hst, shR_2 hg1 hg2]; simp; done) | (simp only [upd_at, Nat.reduceEqDiff, if_true, if_false, hst, shR_3 hg1 hg2]; done) | (simp only [upd_at, Nat.reduceEqDiff, if_true, if_false, hst, shR_3 hg1 hg2]; simp; done) | (exfalso; omega), by simp only [upd_at, Nat.reduceEqDiff, if_false, e0_12], by simp only [upd_at, Nat.reduceEqDiff, if_false, e0_13], by simp only [upd_at, Nat.reduceEqDiff, if_true, if_false, e0_14]; rw [wrap_succ (by omega)]⟩
    ·skip
     have hg1 := of_decide_eq_false c29
     refine pwp_skip ?_
     try simp only [thenK]
     refine hN23 _ ?_
     clear hN23 N23
     refine pwp_then fun N32 hN32 => ?_
     refine pwp_reg fun R33 hR33 => ?_
     refine pops_to rfl fun M hM => ?_
     simp only [pop, St.eval, constSlot, upd_at, Nat.reduceEqDiff, if_true, if_false, popIndexAddr, Tryd.underlying67, sz3, eq_self]
     refine ⟨by decide, by decide, hM _ _ ?_⟩
     clear hM M
     refine pops_to rfl fun M hM => ?_
     simp only [pop, St.eval, upd_at, Nat.reduceEqDiff, if_true, if_false, popLoad, loadK, isAggD, Bool.false_eq_true, Tryd.underlying3, sz3, eq_self]
     refine hM _ _ ?_
     clear hM M
     refine pops_to rfl fun M hM => ?_
     simp only [pop, St.eval, constSlot, upd_at, Nat.reduceEqDiff, if_true, if_false, popIndexAddr, Tryd.underlying67, sz3, eq_self]
     refine ⟨by decide, by decide, hM _ _ ?_⟩
     clear hM M
     refine pops_to rfl fun M hM => ?_
     simp only [pop, St.eval, upd_at, Nat.reduceEqDiff, if_true, if_false, popLoad, loadK, isAggD, Bool.false_eq_true, Tryd.underlying3, sz3, eq_self]
     refine hM _ _ ?_
     clear hM M
     refine pops_to rfl fun M hM => ?_
     simp only [pop, St.eval, upd_at, Nat.reduceEqDiff, if_true, if_false, popBin, binK, intK, eq_self, true_and]
     refine hM _ _ ?_
     clear hM M
     refine pops_done (hR33 _ ?_)
     clear hR33 R33
     try simp only [thenK]
     refine hN32 _ ?_
     clear hN32 N32
     refine pwp_cond (by simp only [St.eval, upd_at, Nat.reduceEqDiff, if_true, if_false] <;> rfl) (fun c36 => ?_) (fun c36 => ?_)
     ·skip
      have hg2 := of_decide_eq_true c36
      refine pwp_reg fun R34 hR34 => ?_
      refine pops_mv (.inl rfl) rfl (by simp only [St.eval, upd_at, Nat.reduceEqDiff, if_true, if_false, e0_4] <;> rfl) ?_
      refine pops_mv (.inl rfl) rfl (by simp only [St.eval, upd_at, Nat.reduceEqDiff, if_false, e0_3] <;> rfl) ?_
      refine pops_to rfl fun M hM => ?_
      simp only [pop, St.eval, constSlot, upd_at, Nat.reduceEqDiff, if_true, if_false, popIndexAddr, Tryd.underlying67, sz3, eq_self]
      refine ⟨by decide, by decide, hM _ _ ?_⟩
      clear hM M
      refine pops_to rfl fun M hM => ?_
      simp only [pop, St.eval, upd_at, Nat.reduceEqDiff, if_true, if_false, popLoad, loadK, isAggD, Bool.false_eq_true, Tryd.underlying3, sz3, eq_self]
      refine hM _ _ ?_
      clear hM M
      refine pops_to rfl fun M hM => ?_
      simp only [pop, St.eval, constSlot, upd_at, Nat.reduceEqDiff, if_true, if_false, popCall, List.map_nil, svs, List.mapM_cons, List.mapM_nil, Option.bind_eq_bind, Option.bind_some, Option.pure_def, List.append_nil]
      refine PFun.use (one_fun W0 x.2) fun h3 s3 => hM _ _ ?_
      replace s3 := Same.trans s1 s3
      clear hM M
      refine pops_to rfl fun M hM => ?_
      simp only [pop, St.eval, upd_at, Nat.reduceEqDiff, if_true, if_false, popBin, binK, strK, eq_self, str_size, str_app]
      refine ⟨by first | omega | (simp only [List.length_append]; omega), hM _ _ ?_⟩
      clear hM M
      refine pops_mv (.inr rfl) rfl (by simp only [St.eval, upd_at, Nat.reduceEqDiff, if_true, if_false] <;> rfl) ?_
      refine pops_done (hR34 _ ?_)
      clear hR34 R34
      try simp only [blockK, thenK]
      try simp only [thenK, scopeK]
      refine hN17 _ ?_
      clear hN17 N17
      refine pwp_reg fun R35 hR35 => ?_
      refine pops_to rfl fun M hM => ?_
      simp only [pop, St.eval, constSlot, upd_at, Nat.reduceEqDiff, if_false, popBin, binK, intK, eq_self, true_and, e0_14]
      refine hM _ _ ?_
      clear hM M
      refine pops_mv (.inl rfl) rfl (by simp only [St.eval, upd_at, Nat.reduceEqDiff, if_true, if_false] <;> rfl) ?_
      refine pops_done (hR35 _ ?_)
      clear hR35 R35
      try simp only [thenK]
      exact ⟨_, by omega, _, .refl _ _, i + 1, rfl, by omega, s3, by simp only [upd_at, Nat.reduceEqDiff, if_false, e0_3], by first | (simp only [upd_at, Nat.reduceEqDiff, if_true, if_false, hst, shR_1 hg1]; simp; done) | (simp only [upd_at, Nat.reduceEqDiff, if_true, if_false, hst, shR_2 hg1 hg2]; simp; done) | (simp only [upd_at, Nat.reduceEqDiff, if_true, if_false, hst, shR_3 hg1 hg2]; done) | (simp only [upd_at, Nat.reduceEqDiff, if_true, if_false, hst, shR_3 hg1 hg2]; simp; done) | (exfalso; omega), by simp only [upd_at, Nat.reduceEqDiff, if_false, e0_12], by simp only [upd_at, Nat.reduceEqDiff, if_false, e0_13], by simp only [upd_at, Nat.reduceEqDiff, if_true, if_false, e0_14]; rw [wrap_succ (by omega)]⟩
     ·skip
      have hg2 := of_decide_eq_false c36
      refine pwp_skip ?_
      try simp only [blockK, thenK]
      try simp only [thenK, scopeK]
      refine hN17 _ ?_
      clear hN17 N17
      refine pwp_reg fun R36 hR36 => ?_
      refine pops_to rfl fun M hM => ?_
      simp only [pop, St.eval, constSlot, upd_at, Nat.reduceEqDiff, if_false, popBin, binK, intK, eq_self, true_and, e0_14]
      refine hM _ _ ?_
      clear hM M
      refine pops_mv (.inl rfl) rfl (by simp only [St.eval, upd_at, Nat.reduceEqDiff, if_true, if_false] <;> rfl) ?_
      refine pops_done (hR36 _ ?_)
      clear hR36 R36
      try simp only [thenK]
      exact ⟨_, by omega, _, .refl _ _, i + 1, rfl, by omega, s1, by simp only [upd_at, Nat.reduceEqDiff, if_false, e0_3], by first | (simp only [upd_at, Nat.reduceEqDiff, if_true, if_false, hst, shR_1 hg1]; simp; done) | (simp only [upd_at, Nat.reduceEqDiff, if_true, if_false, hst, shR_2 hg1 hg2]; simp; done) | (simp only [upd_at, Nat.reduceEqDiff, if_true, if_false, hst, shR_3 hg1 hg2]; done) | (simp only [upd_at, Nat.reduceEqDiff, if_true, if_false, hst, shR_3 hg1 hg2]; simp; done) | (exfalso; omega), by simp only [upd_at, Nat.reduceEqDiff, if_false, e0_12], by simp only [upd_at, Nat.reduceEqDiff, if_false, e0_13], by simp only [upd_at, Nat.reduceEqDiff, if_true, if_false, e0_14]; rw [wrap_succ (by omega)]⟩
   ·skip
    obtain rfl : i = g.ranges.length := by have := of_decide_eq_false c15; omega
    rw [List.take_length] at e0_4
    have hsl := set_len g.neg g.ranges
    refine pwp_exit ?_
    try simp only [thenK, blockK, if_true]
    clear hN16 N16
    try simp only [blockK, scopeK, if_true, Nat.reduceEqDiff, if_false, thenK]
    try simp only [thenK, scopeK]
    refine hN11 _ ?_
    clear hN11 N11
    refine pwp_then fun N37 hN37 => ?_
    refine pwp_reg fun R38 hR38 => ?_
    refine pops_mv (.inl rfl) rfl (by simp only [St.eval, upd_at, Nat.reduceEqDiff, if_false, e0_4] <;> rfl) ?_
    refine pops_to rfl fun M hM => ?_
    simp only [pop, St.eval, constSlot, upd_at, Nat.reduceEqDiff, if_true, if_false, popBin, binK, strK, eq_self, str_size, str_app]
    refine ⟨by first | omega | (simp only [List.length_cons, List.length_nil]; omega), hM _ _ ?_⟩
    clear hM M
    refine pops_mv (.inr rfl) rfl (by simp only [St.eval, upd_at, Nat.reduceEqDiff, if_true, if_false] <;> rfl) ?_
    refine pops_done (hR38 _ ?_)
    clear hR38 R38
    try simp only [thenK]
    refine hN37 _ ?_
    clear hN37 N37
    refine pwp_ret ?_
    simp only [bodyK]
    refine ⟨_, rfl, endFun sl0 ?_⟩
    try simp only [upd_at, Nat.reduceEqDiff, if_true, if_false]
    all_goals
     rw [← set_end]
 ·skip
  have hng : g.neg = false := c8
  refine pwp_skip ?_
  try simp only [thenK]
  refine hN7 _ ?_
  clear hN7 N7
  refine pwp_then fun N39 hN39 => ?_
  refine pwp_then fun N40 hN40 => ?_
  refine pwp_reg fun R41 hR41 => ?_
  refine pops_to rfl fun M hM => ?_
  simp only [pop, St.eval, upd_at, Nat.reduceEqDiff, if_true, if_false, popFieldAddr, fieldOf, List.drop_succ_cons, List.drop_zero, List.getElem?_toArray, List.getElem?_cons_zero, List.getElem?_cons_succ, Tryd.underlying64, sz61]
  refine ⟨⟨_, rfl⟩, hM _ _ ?_⟩
  clear hM M
  refine pops_to rfl fun M hM => ?_
  simp only [pop, St.eval, upd_at, Nat.reduceEqDiff, if_true, if_false, popLoad, loadK, isAggD, Bool.false_eq_true, Tryd.underlying61, sz61, eq_self]
  refine hM _ _ ?_
  clear hM M
  refine pops_to rfl fun M hM => ?_
  simp only [pop, St.eval, upd_at, Nat.reduceEqDiff, if_true, if_false, popCall, List.map_cons, List.map_nil, popBuiltin, popLen, lenOfSlot, List.length_map, Tryd.underlying61, eq_self, List.length_map]
  refine hM _ _ ?_
  clear hM M
  refine pops_mv (.inl rfl) rfl (by simp only [St.eval, constSlot] <;> rfl) ?_
  refine pops_done (hR41 _ ?_)
  clear hR41 R41
  try simp only [thenK]
  refine hN40 _ ?_
  clear hN40 N40
  refine pwp_block ?_
  refine pwp_loop (fun k σ => ∃ (i : Nat), (k = g.ranges.length - i) ∧ (i ≤ g.ranges.length) ∧ (Same h σ.hp) ∧ (σ.env 3 = .sv (.one (.clo (.func 98) []))) ∧ (σ.env 4 = .sv (.one (pstr (setT0 g.neg (g.ranges.take i))))) ∧ (σ.env 12 = .sv (.one (.ro false 2 (rngPV g.ranges)))) ∧ (σ.env 13 = .sv (.one (pint (g.ranges.length : Nat)))) ∧ (σ.env 14 = .sv (.one (pint (i : Nat))))) _ ⟨_, .refl _ _, 0, rfl, ?_⟩ ?_
  · exact ⟨Nat.zero_le _, (Same.refl _), by simp only [upd_at, Nat.reduceEqDiff, if_true, if_false], by simp only [upd_at, Nat.reduceEqDiff, if_true, if_false, hng, setT0]; rfl, by simp only [upd_at, Nat.reduceEqDiff, if_true, if_false], by first | rfl | (simp only [upd_at, Nat.reduceEqDiff, if_true, if_false]; rfl), by first | rfl | (simp only [upd_at, Nat.reduceEqDiff, if_true, if_false]; rfl)⟩
  ·rintro k ⟨e, hp0⟩ ⟨i, hk0, hx0_0, sl0, e0_3, e0_4, e0_12, e0_13, e0_14⟩
   simp only at sl0 e0_3 e0_4 e0_12 e0_13 e0_14
   refine pwp_then fun N42 hN42 => ?_
   refine pwp_reg fun R43 hR43 => ?_
   refine pops_to rfl fun M hM => ?_
   simp only [pop, St.eval, popBin, binK, intK, eq_self, true_and, e0_13, e0_14]
   refine hM _ _ ?_
   clear hM M
   refine pops_done (hR43 _ ?_)
   clear hR43 R43
   try simp only [thenK]
   refine hN42 _ ?_
   clear hN42 N42
   refine pwp_then fun N44 hN44 => ?_
   refine pwp_cond (by simp only [St.eval, upd_at, if_true] <;> rfl) (fun c15 => ?_) (fun c15 => ?_)
   ·skip
    have hi : i < g.ranges.length := by have := of_decide_eq_true c15; omega
    obtain ⟨x, hx⟩ : ∃ x, g.ranges[i]? = some x := ⟨_, List.getElem?_eq_getElem hi⟩
    have hget := rng_at hx
    have hgood := hr x (List.mem_of_getElem? hx)
    simp only [rngBad, Bool.or_eq_false_iff, decide_eq_false_iff_not] at hgood
    have hw28 : IntKind.i64.wrap (x.1 + 1) = x.1 + 1 := wrap_i64 (by omega) (by omega)
    have hsl := set_len g.neg (g.ranges.take i)
    rw [List.length_take] at hsl
    have hb1 := bnd_len x.1
    have hb2 := bnd_len x.2
    have hst := set_step (neg := g.neg) hx
    refine pwp_skip ?_
    try simp only [thenK]
    refine hN44 _ ?_
    clear hN44 N44
    refine pwp_then fun N45 hN45 => ?_
    refine pwp_block ?_
    refine pwp_then fun N46 hN46 => ?_
    refine pwp_reg fun R47 hR47 => ?_
    refine pops_to rfl fun M hM => ?_
    simp only [pop, St.eval, upd_at, Nat.reduceEqDiff, if_false, popIndexAddr, Tryd.underlying61, sz67, eq_self, true_and, e0_12, e0_14, hget, Int.toNat_natCast]
    refine ⟨Int.natCast_nonneg _, hM _ _ ?_⟩
    clear hM M
    refine pops_to rfl fun M hM => ?_
    simp only [pop, St.eval, upd_at, Nat.reduceEqDiff, if_true, if_false, List.length_cons, List.length_nil, Nat.zero_add, Nat.reduceAdd, Nat.reduceLeDiff, List.take_succ_cons, List.take_nil, popLoad, loadK, isAggD, Tryd.underlying67, sz67, eq_self, true_and]
    refine hM _ _ ?_
    clear hM M
    refine pops_var (hpOk.same hb sl0) rfl ze67 (zs := [PV.val (.int .i64 0), PV.val (.int .i64 0)]) (by kernel_rfl) (by simp) (by simp only [St.eval, slotCells, upd_at, Nat.reduceEqDiff, if_true, if_false] <;> rfl) (by rfl) (by exact Nat.succ_pos _) (by rw [sz67]; rfl) (fun hv48 sv48 => ?_)
    replace sv48 := Same.trans sl0 sv48
    refine pops_done (hR47 _ ?_)
    clear hR47 R47
    try simp only [thenK]
    refine hN46 _ ?_
    clear hN46 N46
    refine pwp_then fun N49 hN49 => ?_
    refine pwp_reg fun R50 hR50 => ?_
    refine pops_mv (.inl rfl) rfl (by simp only [St.eval, upd_at, Nat.reduceEqDiff, if_false, e0_4] <;> rfl) ?_
    refine pops_mv (.inl rfl) rfl (by simp only [St.eval, upd_at, Nat.reduceEqDiff, if_false, e0_3] <;> rfl) ?_
    refine pops_to rfl fun M hM => ?_
    simp only [pop, St.eval, constSlot, upd_at, Nat.reduceEqDiff, if_true, if_false, popIndexAddr, Tryd.underlying67, sz3, eq_self]
    refine ⟨by decide, by decide, hM _ _ ?_⟩
    clear hM M
    refine pops_to rfl fun M hM => ?_
    simp only [pop, St.eval, upd_at, Nat.reduceEqDiff, if_true, if_false, popLoad, loadK, isAggD, Bool.false_eq_true, Tryd.underlying3, sz3, eq_self]
    refine hM _ _ ?_
    clear hM M
    refine pops_to rfl fun M hM => ?_
    simp only [pop, St.eval, constSlot, upd_at, Nat.reduceEqDiff, if_true, if_false, popCall, List.map_nil, svs, List.mapM_cons, List.mapM_nil, Option.bind_eq_bind, Option.bind_some, Option.pure_def, List.append_nil]
    refine PFun.use (one_fun W0 x.1) fun h4 s4 => hM _ _ ?_
    replace s4 := Same.trans sv48 s4
    clear hM M
    refine pops_to rfl fun M hM => ?_
    simp only [pop, St.eval, upd_at, Nat.reduceEqDiff, if_true, if_false, popBin, binK, strK, eq_self, str_size, str_app]
    refine ⟨by first | omega | (simp only [List.length_append, List.length_take, List.length_cons, List.length_nil]; omega), hM _ _ ?_⟩
    clear hM M
    refine pops_mv (.inr rfl) rfl (by simp only [St.eval, upd_at, Nat.reduceEqDiff, if_true, if_false] <;> rfl) ?_
    refine pops_done (hR50 _ ?_)
    clear hR50 R50
    try simp only [thenK]
    refine hN49 _ ?_
    clear hN49 N49
    refine pwp_then fun N51 hN51 => ?_
    refine pwp_then fun N52 hN52 => ?_
    refine pwp_reg fun R53 hR53 => ?_
    refine pops_to rfl fun M hM => ?_
    simp only [pop, St.eval, constSlot, upd_at, Nat.reduceEqDiff, if_true, if_false, popIndexAddr, Tryd.underlying67, sz3, eq_self]
    refine ⟨by decide, by decide, hM _ _ ?_⟩
    clear hM M
    refine pops_to rfl fun M hM => ?_
    simp only [pop, St.eval, upd_at, Nat.reduceEqDiff, if_true, if_false, popLoad, loadK, isAggD, Bool.false_eq_true, Tryd.underlying3, sz3, eq_self]
    refine hM _ _ ?_
    clear hM M
    refine pops_to rfl fun M hM => ?_
    simp only [pop, St.eval, constSlot, upd_at, Nat.reduceEqDiff, if_true, if_false, popIndexAddr, Tryd.underlying67, sz3, eq_self]
    refine ⟨by decide, by decide, hM _ _ ?_⟩
    clear hM M
    refine pops_to rfl fun M hM => ?_
    simp only [pop, St.eval, upd_at, Nat.reduceEqDiff, if_true, if_false, popLoad, loadK, isAggD, Bool.false_eq_true, Tryd.underlying3, sz3, eq_self]
    refine hM _ _ ?_
    clear hM M
    refine pops_to rfl fun M hM => ?_
    simp only [pop, St.eval, constSlot, upd_at, Nat.reduceEqDiff, if_true, if_false, popBin, binK, intK, eq_self, true_and, hw28]
    refine hM _ _ ?_
    clear hM M
    refine pops_to rfl fun M hM => ?_
    simp only [pop, St.eval, upd_at, Nat.reduceEqDiff, if_true, if_false, popBin, binK, intK, eq_self, true_and]
    refine hM _ _ ?_
    clear hM M
    refine pops_done (hR53 _ ?_)
    clear hR53 R53
    try simp only [thenK]
    refine hN52 _ ?_
    clear hN52 N52
    refine pwp_cond (by simp only [St.eval, upd_at, Nat.reduceEqDiff, if_true, if_false] <;> rfl) (fun c29 => ?_) (fun c29 => ?_)
    ·skip
     have hg1 := of_decide_eq_true c29
     refine pwp_reg fun R54 hR54 => ?_
     refine pops_mv (.inl rfl) rfl (by simp only [St.eval, upd_at, Nat.reduceEqDiff, if_true, if_false, e0_4] <;> rfl) ?_
     refine pops_to rfl fun M hM => ?_
     simp only [pop, St.eval, constSlot, upd_at, Nat.reduceEqDiff, if_true, if_false, popBin, binK, strK, eq_self, str_size, str_app]
     refine ⟨by first | omega | (simp only [List.length_append, List.length_cons, List.length_nil]; omega), hM _ _ ?_⟩
     clear hM M
     refine pops_mv (.inr rfl) rfl (by simp only [St.eval, upd_at, Nat.reduceEqDiff, if_true, if_false] <;> rfl) ?_
     refine pops_done (hR54 _ ?_)
     clear hR54 R54
     try simp only [thenK]
     refine hN51 _ ?_
     clear hN51 N51
     refine pwp_then fun N55 hN55 => ?_
     refine pwp_reg fun R56 hR56 => ?_
     refine pops_to rfl fun M hM => ?_
     simp only [pop, St.eval, constSlot, upd_at, Nat.reduceEqDiff, if_true, if_false, popIndexAddr, Tryd.underlying67, sz3, eq_self]
     refine ⟨by decide, by decide, hM _ _ ?_⟩
     clear hM M
     refine pops_to rfl fun M hM => ?_
     simp only [pop, St.eval, upd_at, Nat.reduceEqDiff, if_true, if_false, popLoad, loadK, isAggD, Bool.false_eq_true, Tryd.underlying3, sz3, eq_self]
     refine hM _ _ ?_
     clear hM M
     refine pops_to rfl fun M hM => ?_
     simp only [pop, St.eval, constSlot, upd_at, Nat.reduceEqDiff, if_true, if_false, popIndexAddr, Tryd.underlying67, sz3, eq_self]
     refine ⟨by decide, by decide, hM _ _ ?_⟩
     clear hM M
     refine pops_to rfl fun M hM => ?_
     simp only [pop, St.eval, upd_at, Nat.reduceEqDiff, if_true, if_false, popLoad, loadK, isAggD, Bool.false_eq_true, Tryd.underlying3, sz3, eq_self]
     refine hM _ _ ?_
     clear hM M
     refine pops_to rfl fun M hM => ?_
     simp only [pop, St.eval, upd_at, Nat.reduceEqDiff, if_true, if_false, popBin, binK, intK, eq_self, true_and]
     refine hM _ _ ?_
     clear hM M
     refine pops_done (hR56 _ ?_)
     clear hR56 R56
     try simp only [thenK]
     refine hN55 _ ?_
     clear hN55 N55
     refine pwp_cond (by simp only [St.eval, upd_at, Nat.reduceEqDiff, if_true, if_false] <;> rfl) (fun c36 => ?_) (fun c36 => ?_)
     ·skip
      have hg2 := of_decide_eq_true c36
      refine pwp_reg fun R57 hR57 => ?_
      refine pops_mv (.inl rfl) rfl (by simp only [St.eval, upd_at, Nat.reduceEqDiff, if_true, if_false, e0_4] <;> rfl) ?_
      refine pops_mv (.inl rfl) rfl (by simp only [St.eval, upd_at, Nat.reduceEqDiff, if_false, e0_3] <;> rfl) ?_
      refine pops_to rfl fun M hM => ?_
      simp only [pop, St.eval, constSlot, upd_at, Nat.reduceEqDiff, if_true, if_false, popIndexAddr, Tryd.underlying67, sz3, eq_self]
      refine ⟨by decide, by decide, hM _ _ ?_⟩
      clear hM M
      refine pops_to rfl fun M hM => ?_
      simp only [pop, St.eval, upd_at, Nat.reduceEqDiff, if_true, if_false, popLoad, loadK, isAggD, Bool.false_eq_true, Tryd.underlying3, sz3, eq_self]
      refine hM _ _ ?_
      clear hM M
      refine pops_to rfl fun M hM => ?_
      simp only [pop, St.eval, constSlot, upd_at, Nat.reduceEqDiff, if_true, if_false, popCall, List.map_nil, svs, List.mapM_cons, List.mapM_nil, Option.bind_eq_bind, Option.bind_some, Option.pure_def, List.append_nil]
      refine PFun.use (one_fun W0 x.2) fun h5 s5 => hM _ _ ?_
      replace s5 := Same.trans s4 s5
      clear hM M
      refine pops_to rfl fun M hM => ?_
      simp only [pop, St.eval, upd_at, Nat.reduceEqDiff, if_true, if_false, popBin, binK, strK, eq_self, str_size, str_app]
      refine ⟨by first | omega | (simp only [List.length_append, List.length_cons, List.length_nil]; omega), hM _ _ ?_⟩
      clear hM M
      refine pops_mv (.inr rfl) rfl (by simp only [St.eval, upd_at, Nat.reduceEqDiff, if_true, if_false] <;> rfl) ?_
      refine pops_done (hR57 _ ?_)
      clear hR57 R57
      try simp only [blockK, thenK]
      try simp only [thenK, scopeK]
      refine hN45 _ ?_
      clear hN45 N45
      refine pwp_reg fun R58 hR58 => ?_
      refine pops_to rfl fun M hM => ?_
      simp only [pop, St.eval, constSlot, upd_at, Nat.reduceEqDiff, if_false, popBin, binK, intK, eq_self, true_and, e0_14]
      refine hM _ _ ?_
      clear hM M
      refine pops_mv (.inl rfl) rfl (by simp only [St.eval, upd_at, Nat.reduceEqDiff, if_true, if_false] <;> rfl) ?_
      refine pops_done (hR58 _ ?_)
      clear hR58 R58
      try simp only [thenK]
      exact ⟨_, by omega, _, .refl _ _, i + 1, rfl, by omega, s5, by simp only [upd_at, Nat.reduceEqDiff, if_false, e0_3], by first | (simp only [upd_at, Nat.reduceEqDiff, if_true, if_false, hst, shR_1 hg1]; simp; done) | (simp only [upd_at, Nat.reduceEqDiff, if_true, if_false, hst, shR_2 hg1 hg2]; simp; done) | (simp only [upd_at, Nat.reduceEqDiff, if_true, if_false, hst, shR_3 hg1 hg2]; done) | (simp only [upd_at, Nat.reduceEqDiff, if_true, if_false, hst, shR_3 hg1 hg2]; simp; done) | (exfalso; omega), by simp only [upd_at, Nat.reduceEqDiff, if_false, e0_12], by simp only [upd_at, Nat.reduceEqDiff, if_false, e0_13], by simp only [upd_at, Nat.reduceEqDiff, if_true, if_false, e0_14]; rw [wrap_succ (by omega)]⟩
     ·skip
      have hg2 := of_decide_eq_false c36
      refine pwp_skip ?_
      try simp only [blockK, thenK]
      try simp only [thenK, scopeK]
      refine hN45 _ ?_
      clear hN45 N45
      refine pwp_reg fun R59 hR59 => ?_
      refine pops_to rfl fun M hM => ?_
      simp only [pop, St.eval, constSlot, upd_at, Nat.reduceEqDiff, if_false, popBin, binK, intK, eq_self, true_and, e0_14]
      refine hM _ _ ?_
      clear hM M
      refine pops_mv (.inl rfl) rfl (by simp only [St.eval, upd_at, Nat.reduceEqDiff, if_true, if_false] <;> rfl) ?_
      refine pops_done (hR59 _ ?_)
      clear hR59 R59
      try simp only [thenK]
      exact ⟨_, by omega, _, .refl _ _, i + 1, rfl, by omega, s4, by simp only [upd_at, Nat.reduceEqDiff, if_false, e0_3], by first | (simp only [upd_at, Nat.reduceEqDiff, if_true, if_false, hst, shR_1 hg1]; simp; done) | (simp only [upd_at, Nat.reduceEqDiff, if_true, if_false, hst, shR_2 hg1 hg2]; simp; done) | (simp only [upd_at, Nat.reduceEqDiff, if_true, if_false, hst, shR_3 hg1 hg2]; done) | (simp only [upd_at, Nat.reduceEqDiff, if_true, if_false, hst, shR_3 hg1 hg2]; simp; done) | (exfalso; omega), by simp only [upd_at, Nat.reduceEqDiff, if_false, e0_12], by simp only [upd_at, Nat.reduceEqDiff, if_false, e0_13], by simp only [upd_at, Nat.reduceEqDiff, if_true, if_false, e0_14]; rw [wrap_succ (by omega)]⟩
    ·skip
     have hg1 := of_decide_eq_false c29
     refine pwp_skip ?_
     try simp only [thenK]
     refine hN51 _ ?_
     clear hN51 N51
     refine pwp_then fun N60 hN60 => ?_
     refine pwp_reg fun R61 hR61 => ?_
     refine pops_to rfl fun M hM => ?_
     simp only [pop, St.eval, constSlot, upd_at, Nat.reduceEqDiff, if_true, if_false, popIndexAddr, Tryd.underlying67, sz3, eq_self]
     refine ⟨by decide, by decide, hM _ _ ?_⟩
     clear hM M
     refine pops_to rfl fun M hM => ?_
     simp only [pop, St.eval, upd_at, Nat.reduceEqDiff, if_true, if_false, popLoad, loadK, isAggD, Bool.false_eq_true, Tryd.underlying3, sz3, eq_self]
     refine hM _ _ ?_
     clear hM M
     refine pops_to rfl fun M hM => ?_
     simp only [pop, St.eval, constSlot, upd_at, Nat.reduceEqDiff, if_true, if_false, popIndexAddr, Tryd.underlying67, sz3, eq_self]
     refine ⟨by decide, by decide, hM _ _ ?_⟩
     clear hM M
     refine pops_to rfl fun M hM => ?_
     simp only [pop, St.eval, upd_at, Nat.reduceEqDiff, if_true, if_false, popLoad, loadK, isAggD, Bool.false_eq_true, Tryd.underlying3, sz3, eq_self]
     refine hM _ _ ?_
     clear hM M
     refine pops_to rfl fun M hM => ?_
     simp only [pop, St.eval, upd_at, Nat.reduceEqDiff, if_true, if_false, popBin, binK, intK, eq_self, true_and]
     refine hM _ _ ?_
     clear hM M
     refine pops_done (hR61 _ ?_)
     clear hR61 R61
     try simp only [thenK]
     refine hN60 _ ?_
     clear hN60 N60
     refine pwp_cond (by simp only [St.eval, upd_at, Nat.reduceEqDiff, if_true, if_false] <;> rfl) (fun c36 => ?_) (fun c36 => ?_)
     ·skip
      have hg2 := of_decide_eq_true c36
      refine pwp_reg fun R62 hR62 => ?_
      refine pops_mv (.inl rfl) rfl (by simp only [St.eval, upd_at, Nat.reduceEqDiff, if_true, if_false, e0_4] <;> rfl) ?_
      refine pops_mv (.inl rfl) rfl (by simp only [St.eval, upd_at, Nat.reduceEqDiff, if_false, e0_3] <;> rfl) ?_
      refine pops_to rfl fun M hM => ?_
      simp only [pop, St.eval, constSlot, upd_at, Nat.reduceEqDiff, if_true, if_false, popIndexAddr, Tryd.underlying67, sz3, eq_self]
      refine ⟨by decide, by decide, hM _ _ ?_⟩
      clear hM M
      refine pops_to rfl fun M hM => ?_
      simp only [pop, St.eval, upd_at, Nat.reduceEqDiff, if_true, if_false, popLoad, loadK, isAggD, Bool.false_eq_true, Tryd.underlying3, sz3, eq_self]
      refine hM _ _ ?_
      clear hM M
      refine pops_to rfl fun M hM => ?_
      simp only [pop, St.eval, constSlot, upd_at, Nat.reduceEqDiff, if_true, if_false, popCall, List.map_nil, svs, List.mapM_cons, List.mapM_nil, Option.bind_eq_bind, Option.bind_some, Option.pure_def, List.append_nil]
      refine PFun.use (one_fun W0 x.2) fun h6 s6 => hM _ _ ?_
      replace s6 := Same.trans s4 s6
      clear hM M
      refine pops_to rfl fun M hM => ?_
      simp only [pop, St.eval, upd_at, Nat.reduceEqDiff, if_true, if_false, popBin, binK, strK, eq_self, str_size, str_app]
      refine ⟨by first | omega | (simp only [List.length_append]; omega), hM _ _ ?_⟩
      clear hM M
      refine pops_mv (.inr rfl) rfl (by simp only [St.eval, upd_at, Nat.reduceEqDiff, if_true, if_false] <;> rfl) ?_
      refine pops_done (hR62 _ ?_)
      clear hR62 R62
      try simp only [blockK, thenK]
      try simp only [thenK, scopeK]
      refine hN45 _ ?_
      clear hN45 N45
      refine pwp_reg fun R63 hR63 => ?_
      refine pops_to rfl fun M hM => ?_
      simp only [pop, St.eval, constSlot, upd_at, Nat.reduceEqDiff, if_false, popBin, binK, intK, eq_self, true_and, e0_14]
      refine hM _ _ ?_
      clear hM M
      refine pops_mv (.inl rfl) rfl (by simp only [St.eval, upd_at, Nat.reduceEqDiff, if_true, if_false] <;> rfl) ?_
      refine pops_done (hR63 _ ?_)
      clear hR63 R63
      try simp only [thenK]
      exact ⟨_, by omega, _, .refl _ _, i + 1, rfl, by omega, s6, by simp only [upd_at, Nat.reduceEqDiff, if_false, e0_3], by first | (simp only [upd_at, Nat.reduceEqDiff, if_true, if_false, hst, shR_1 hg1]; simp; done) | (simp only [upd_at, Nat.reduceEqDiff, if_true, if_false, hst, shR_2 hg1 hg2]; simp; done) | (simp only [upd_at, Nat.reduceEqDiff, if_true, if_false, hst, shR_3 hg1 hg2]; done) | (simp only [upd_at, Nat.reduceEqDiff, if_true, if_false, hst, shR_3 hg1 hg2]; simp; done) | (exfalso; omega), by simp only [upd_at, Nat.reduceEqDiff, if_false, e0_12], by simp only [upd_at, Nat.reduceEqDiff, if_false, e0_13], by simp only [upd_at, Nat.reduceEqDiff, if_true, if_false, e0_14]; rw [wrap_succ (by omega)]⟩
     ·skip
      have hg2 := of_decide_eq_false c36
      refine pwp_skip ?_
      try simp only [blockK, thenK]
      try simp only [thenK, scopeK]
      refine hN45 _ ?_
      clear hN45 N45
      refine pwp_reg fun R64 hR64 => ?_
      refine pops_to rfl fun M hM => ?_
      simp only [pop, St.eval, constSlot, upd_at, Nat.reduceEqDiff, if_false, popBin, binK, intK, eq_self, true_and, e0_14]
      refine hM _ _ ?_
      clear hM M
      refine pops_mv (.inl rfl) rfl (by simp only [St.eval, upd_at, Nat.reduceEqDiff, if_true, if_false] <;> rfl) ?_
      refine pops_done (hR64 _ ?_)
      clear hR64 R64
      try simp only [thenK]
      exact ⟨_, by omega, _, .refl _ _, i + 1, rfl, by omega, s4, by simp only [upd_at, Nat.reduceEqDiff, if_false, e0_3], by first | (simp only [upd_at, Nat.reduceEqDiff, if_true, if_false, hst, shR_1 hg1]; simp; done) | (simp only [upd_at, Nat.reduceEqDiff, if_true, if_false, hst, shR_2 hg1 hg2]; simp; done) | (simp only [upd_at, Nat.reduceEqDiff, if_true, if_false, hst, shR_3 hg1 hg2]; done) | (simp only [upd_at, Nat.reduceEqDiff, if_true, if_false, hst, shR_3 hg1 hg2]; simp; done) | (exfalso; omega), by simp only [upd_at, Nat.reduceEqDiff, if_false, e0_12], by simp only [upd_at, Nat.reduceEqDiff, if_false, e0_13], by simp only [upd_at, Nat.reduceEqDiff, if_true, if_false, e0_14]; rw [wrap_succ (by omega)]⟩
   ·skip
    obtain rfl : i = g.ranges.length := by have := of_decide_eq_false c15; omega
    rw [List.take_length] at e0_4
    have hsl := set_len g.neg g.ranges
    refine pwp_exit ?_
    try simp only [thenK, blockK, if_true]
    clear hN44 N44
    try simp only [blockK, scopeK, if_true, Nat.reduceEqDiff, if_false, thenK]
    try simp only [thenK, scopeK]
    refine hN39 _ ?_
    clear hN39 N39
    refine pwp_then fun N65 hN65 => ?_
    refine pwp_reg fun R66 hR66 => ?_
    refine pops_mv (.inl rfl) rfl (by simp only [St.eval, upd_at, Nat.reduceEqDiff, if_false, e0_4] <;> rfl) ?_
    refine pops_to rfl fun M hM => ?_
    simp only [pop, St.eval, constSlot, upd_at, Nat.reduceEqDiff, if_true, if_false, popBin, binK, strK, eq_self, str_size, str_app]
    refine ⟨by first | omega | (simp only [List.length_cons, List.length_nil]; omega), hM _ _ ?_⟩
    clear hM M
    refine pops_mv (.inr rfl) rfl (by simp only [St.eval, upd_at, Nat.reduceEqDiff, if_true, if_false] <;> rfl) ?_
    refine pops_done (hR66 _ ?_)
    clear hR66 R66
    try simp only [thenK]
    refine hN65 _ ?_
    clear hN65 N65
    refine pwp_ret ?_
    simp only [bodyK]
    refine ⟨_, rfl, endFun sl0 ?_⟩
    try simp only [upd_at, Nat.reduceEqDiff, if_true, if_false]
    all_goals
     rw [← set_end]
theorem nm50 : (Tryd.f50.name == "runtime.NumGoroutine") = false := by kernel_rfl
theorem quoted_fun (W0 : World) (s : List UInt8) (h0 : 0 < s.length) (hs : s.length ≤ 1099511627776) :
  PFun Tryd.prog W0 50 [.one (pstr s)] (.sv (.one (pbool (quotB s)))) := by
 intro h
 obtain ⟨m, hm⟩ : ∃ m, m = s.length - 1 := ⟨_, rfl⟩
 have hw7 : IntKind.i64.wrap ((s.length : Int) - 2) = (m : Int) - 1 := by rw [wrap_i64 (by omega) (by omega)]; omega
 refine pcalls1 (n := 23) Tryd.func50 rfl nm50 rfl fun hb => ?_
 refine pwp_then fun N1 hN1 => ?_
 refine pwp_reg fun R2 hR2 => ?_
 refine pops_mv (.inr rfl) rfl (by simp only [St.eval, constSlot] <;> rfl) ?_
 refine pops_done (hR2 _ ?_)
 clear hR2 R2
 try simp only [thenK]
 refine hN1 _ ?_
 clear hN1 N1
 refine pwp_then fun N3 hN3 => ?_
 refine pwp_reg fun R4 hR4 => ?_
 refine pops_mv (.inr rfl) rfl (by simp only [St.eval, constSlot] <;> rfl) ?_
 refine pops_done (hR4 _ ?_)
 clear hR4 R4
 try simp only [thenK]
 refine hN3 _ ?_
 clear hN3 N3
 refine pwp_then fun N5 hN5 => ?_
 refine pwp_then fun N6 hN6 => ?_
 refine pwp_reg fun R7 hR7 => ?_
 refine pops_mv (.inl rfl) rfl (by simp only [St.eval, upd_at, Nat.reduceEqDiff, if_true, if_false] <;> rfl) ?_
 refine pops_to rfl fun M hM => ?_
 simp only [pop, St.eval, upd_at, Nat.reduceEqDiff, if_true, if_false, popCall, List.map_cons, List.map_nil, popBuiltin, popLen, Tryd.underlying9, eq_self, str_size]
 refine hM _ _ ?_
 clear hM M
 refine pops_to rfl fun M hM => ?_
 simp only [pop, St.eval, constSlot, upd_at, Nat.reduceEqDiff, if_true, if_false, popBin, binK, intK, eq_self, true_and, hw7]
 refine hM _ _ ?_
 clear hM M
 refine pops_mv (.inr rfl) rfl (by simp only [St.eval, upd_at, Nat.reduceEqDiff, if_true, if_false] <;> rfl) ?_
 refine pops_done (hR7 _ ?_)
 clear hR7 R7
 try simp only [thenK]
 refine hN6 _ ?_
 clear hN6 N6
 refine pwp_block ?_
 refine pwp_loop (fun k σ => ∃ (n : Nat), (k = m - n) ∧ (n ≤ m) ∧ (tbs (s.take m) = n + tbs (s.take (m - n))) ∧ (Same h σ.hp) ∧ (σ.env 0 = .sv (.one (pstr s))) ∧ (σ.env 3 = .sv (.one (pint (n : Nat)))) ∧ (σ.env 4 = .sv (.one (pint ((m : Int) - 1 - (n : Int)))))) _ ⟨_, .refl _ _, 0, rfl, ?_⟩ ?_
 · exact ⟨Nat.zero_le _, by simp, (Same.refl _), by simp only [upd_at, Nat.reduceEqDiff, if_true, if_false], by first | rfl | (simp only [upd_at, Nat.reduceEqDiff, if_true, if_false]; rfl), by simp only [upd_at, Nat.reduceEqDiff, if_true, if_false]; simp⟩
 ·rintro k ⟨e, hp0⟩ ⟨n, hk0, hx0_0, hx0_1, sl0, e0_0, e0_3, e0_4⟩
  simp only at sl0 e0_0 e0_3 e0_4
  refine pwp_then fun N8 hN8 => ?_
  refine pwp_then fun N9 hN9 => ?_
  refine pwp_reg fun R10 hR10 => ?_
  refine pops_mv (.inl rfl) rfl (by simp only [St.eval, e0_4] <;> rfl) ?_
  refine pops_to rfl fun M hM => ?_
  simp only [pop, St.eval, constSlot, upd_at, if_true, popBin, binK, intK, eq_self, true_and]
  refine hM _ _ ?_
  clear hM M
  refine pops_mv (.inl rfl) rfl (by simp only [St.eval, upd_at, Nat.reduceEqDiff, if_true, if_false] <;> rfl) ?_
  apply pops_and0 5 10 15 [11, 12, 13, 14] (by simp only [upd_at, Nat.reduceEqDiff, if_true, if_false] <;> rfl)
  ·skip
   intro g10_0 J11 hJ11
   simp only [List.take_succ_cons, List.take_zero]
   simp only [anyAt_cons, anyAt_nil] at hJ11
   have hi0 : 0 ≤ (m : Int) - 1 - (n : Int) := of_decide_eq_true g10_0
   have hix : s[((m : Int) - 1 - (n : Int)).toNat]? = some (s.getD (m - 1 - n) 0) := by
     rw [show ((m : Int) - 1 - (n : Int)).toNat = m - 1 - n by omega, List.getD_eq_getElem?_getD, List.getElem?_eq_getElem (by omega)]; rfl
   refine pops_mvg (.inl rfl) rfl rfl (by simp only [upd_at, Nat.reduceEqDiff, if_true, if_false, g10_0]) (by simp only [St.eval, upd_at, Nat.reduceEqDiff, if_false, e0_0, g10_0] <;> rfl) ?_
   refine pops_mvg (.inl rfl) rfl rfl (by simp only [upd_at, Nat.reduceEqDiff, if_true, if_false, g10_0]) (by simp only [St.eval, upd_at, Nat.reduceEqDiff, if_false, e0_4, g10_0] <;> rfl) ?_
   refine pops_do rfl rfl (by simp only [upd_at, Nat.reduceEqDiff, if_true, if_false, g10_0]) fun M hM => ?_
   simp only [pop, St.eval, upd_at, Nat.reduceEqDiff, if_true, if_false, popIndex, Tryd.underlying9, eq_self, str_get, g10_0, hix]
   refine ⟨hi0, hM _ _ ?_⟩
   clear hM M
   refine pops_do rfl rfl (by simp only [upd_at, Nat.reduceEqDiff, if_true, if_false, g10_0]) fun M hM => ?_
   simp only [pop, St.eval, constSlot, upd_at, Nat.reduceEqDiff, if_true, if_false, popBin, binK, intK, eq_self, true_and, g10_0]
   refine hM _ _ ?_
   clear hM M
   refine pops_to rfl fun M hM => ?_
   simp only [pop, St.eval, constSlot, upd_at, Nat.reduceEqDiff, if_true, if_false, true_implies, false_implies, Bool.true_eq_false, and_true, g10_0]
   refine hM _ _ ?_
   clear hM M
   exact pops_done (hJ11 _ (wk_same (wk_any ((wk_any ((wk_any ((wk_any (Wk.refl _ _))))))))))
  ·skip
   intro g10_0 J11 hJ11
   simp only [List.take_succ_cons, List.take_zero]
   simp only [anyAt_cons, anyAt_nil] at hJ11
   refine pops_off (b := false) rfl rfl (by simp only [upd_at, Nat.reduceEqDiff, if_true, if_false, g10_0]) (by decide) ?_
   refine pops_off (b := false) rfl rfl (by simp only [upd_at, Nat.reduceEqDiff, if_true, if_false, g10_0]) (by decide) ?_
   refine pops_off (b := false) rfl rfl (by simp only [upd_at, Nat.reduceEqDiff, if_true, if_false, g10_0]) (by decide) ?_
   refine pops_off (b := false) rfl rfl (by simp only [upd_at, Nat.reduceEqDiff, if_true, if_false, g10_0]) (by decide) ?_
   refine pops_to rfl fun M hM => ?_
   simp only [pop, St.eval, constSlot, upd_at, Nat.reduceEqDiff, if_true, if_false, true_implies, false_implies, Bool.false_eq_true, true_and, g10_0]
   refine hM _ _ ?_
   clear hM M
   exact pops_done (hJ11 _ (wk_same (wk_any ((wk_any ((wk_any ((wk_any (Wk.refl _ _))))))))))
  simp only [List.drop_succ_cons, List.drop_zero, anyAt_cons, anyAt_nil]
  refine pops_done (hR10 _ ?_)
  clear hR10 R10
  try simp only [thenK]
  refine hN9 _ ?_
  clear hN9 N9
  refine pwp_cond (by simp only [St.eval, upd_at, Nat.reduceEqDiff, if_true, if_false] <;> rfl) (fun c15 => ?_) (fun c15 => ?_)
  ·skip
   simp only [Bool.and_eq_true, decide_eq_true_eq, beq_iff_eq] at c15
   obtain ⟨hn0, hc92⟩ := c15
   have hnm : n < m := by omega
   have hix2 : s[m - 1 - n]? = some (s.getD (m - 1 - n) 0) := by rw [List.getD_eq_getElem?_getD, List.getElem?_eq_getElem (by omega)]; rfl
   have hc : s.getD (m - 1 - n) 0 = 92 := UInt8.toNat_inj.1 (by show _ = 92; omega)
   have hq := quot_end hnm (by omega) hix2 hx0_1
   rw [if_pos hc] at hq
   have hw19 : IntKind.i64.wrap ((n : Int) + 1) = ((n + 1 : Nat) : Int) := by rw [wrap_i64 (by omega) (by omega)]; omega
   have hw17 : IntKind.i64.wrap ((m : Int) - 1 - (n : Int) - 1) = (m : Int) - 1 - ((n + 1 : Nat) : Int) := by rw [wrap_i64 (by omega) (by omega)]; omega
   refine pwp_skip ?_
   try simp only [thenK]
   refine hN8 _ ?_
   clear hN8 N8
   refine pwp_then fun N12 hN12 => ?_
   refine pwp_block ?_
   refine pwp_reg fun R13 hR13 => ?_
   refine pops_mv (.inl rfl) rfl (by simp only [St.eval, upd_at, Nat.reduceEqDiff, if_false, e0_3] <;> rfl) ?_
   refine pops_to rfl fun M hM => ?_
   simp only [pop, St.eval, constSlot, upd_at, Nat.reduceEqDiff, if_true, if_false, popBin, binK, intK, eq_self, true_and, hw19]
   refine hM _ _ ?_
   clear hM M
   refine pops_mv (.inr rfl) rfl (by simp only [St.eval, upd_at, Nat.reduceEqDiff, if_true, if_false] <;> rfl) ?_
   refine pops_done (hR13 _ ?_)
   clear hR13 R13
   try simp only [blockK, thenK]
   try simp only [thenK, scopeK]
   refine hN12 _ ?_
   clear hN12 N12
   refine pwp_reg fun R14 hR14 => ?_
   refine pops_mv (.inl rfl) rfl (by simp only [St.eval, upd_at, Nat.reduceEqDiff, if_false, e0_4] <;> rfl) ?_
   refine pops_to rfl fun M hM => ?_
   simp only [pop, St.eval, constSlot, upd_at, Nat.reduceEqDiff, if_true, if_false, popBin, binK, intK, eq_self, true_and, hw17]
   refine hM _ _ ?_
   clear hM M
   refine pops_mv (.inr rfl) rfl (by simp only [St.eval, upd_at, Nat.reduceEqDiff, if_true, if_false] <;> rfl) ?_
   refine pops_done (hR14 _ ?_)
   clear hR14 R14
   try simp only [thenK]
   exact ⟨_, by omega, _, .refl _ _, n + 1, rfl, by omega, by rw [hq]; omega, sl0, by simp only [upd_at, Nat.reduceEqDiff, if_false, e0_0], by simp only [upd_at, Nat.reduceEqDiff, if_true, if_false, e0_3], by simp only [upd_at, Nat.reduceEqDiff, if_true, if_false, e0_4]⟩
  ·skip
   have hq : tbs (s.take m) = n := by
     rcases Nat.lt_or_ge n m with hnm | hnm
     · have hix2 : s[m - 1 - n]? = some (s.getD (m - 1 - n) 0) := by rw [List.getD_eq_getElem?_getD, List.getElem?_eq_getElem (by omega)]; rfl
       have hq := quot_end hnm (by omega) hix2 hx0_1
       rw [decide_eq_true (by omega), Bool.true_and] at c15
       rw [if_neg (fun e => by rw [e] at c15; exact absurd c15 (by decide))] at hq
       exact hq
     · have : m - n = 0 := by omega
       rw [this, List.take_zero] at hx0_1
       have h9 : tbs [] = 0 := rfl
       omega
   have hfin : quotB s = ((Int.tmod (n : Int) 2) == 1) := by
     unfold quotB
     rw [← hm, hq]
     have e : Int.tmod (n : Int) 2 = ((n % 2 : Nat) : Int) := rfl
     rw [e, Bool.eq_iff_iff]
     simp
     omega
   refine pwp_exit ?_
   try simp only [thenK, blockK, if_true]
   clear hN8 N8
   try simp only [blockK, scopeK, if_true, Nat.reduceEqDiff, if_false, thenK]
   try simp only [thenK, scopeK]
   refine hN5 _ ?_
   clear hN5 N5
   refine pwp_then fun N15 hN15 => ?_
   refine pwp_reg fun R16 hR16 => ?_
   refine pops_mv (.inl rfl) rfl (by simp only [St.eval, upd_at, Nat.reduceEqDiff, if_false, e0_3] <;> rfl) ?_
   refine pops_to rfl fun M hM => ?_
   simp only [pop, St.eval, constSlot, upd_at, Nat.reduceEqDiff, if_true, if_false, popBin, binK, intK, eq_self, true_and]
   refine ⟨by decide, hM _ _ ?_⟩
   clear hM M
   refine pops_to rfl fun M hM => ?_
   simp only [pop, St.eval, constSlot, upd_at, Nat.reduceEqDiff, if_true, if_false, popBin, binK, intK, eq_self, true_and]
   refine hM _ _ ?_
   clear hM M
   refine pops_mv (.inr rfl) rfl (by simp only [St.eval, upd_at, Nat.reduceEqDiff, if_true, if_false] <;> rfl) ?_
   refine pops_done (hR16 _ ?_)
   clear hR16 R16
   try simp only [thenK]
   refine hN15 _ ?_
   clear hN15 N15
   refine pwp_ret ?_
   simp only [bodyK]
   refine ⟨_, rfl, endFun sl0 ?_⟩
   try simp only [upd_at, Nat.reduceEqDiff, if_true, if_false]
   all_goals
    rw [hfin]
end Go.Pw
