import Derived.Test.YtjhgmempnhjflaaDoorEncD
namespace Go.Pw
open Go Go.RowKit Go.Proofs
set_option maxRecDepth 100000
set_option linter.unusedSimpArgs false
set_option linter.unusedVariables false
abbrev HEXL : List UInt8 := [48, 49, 50, 51, 52, 53, 54, 55, 56, 57, 65, 66, 67, 68, 69, 70]
theorem hexI_all (d : UInt8) : (hexV d = none ∧ Lib.indexByte HEXL d = -1) ∨ ∃ a, a < 16 ∧ hexV d = some a ∧ Lib.indexByte HEXL d = (a : Int) := by
  refine all_u8 (Q := fun d => (hexV d = none ∧ Lib.indexByte HEXL d = -1) ∨ ∃ a, a < 16 ∧ hexV d = some a ∧ Lib.indexByte HEXL d = (a : Int)) (fun n => ?_) d
  have : ∀ n : Fin 256, (hexV (UInt8.ofNat n.val) = none ∧ Lib.indexByte HEXL (UInt8.ofNat n.val) = -1) ∨ ∃ a : Fin 16, hexV (UInt8.ofNat n.val) = some a.val ∧ Lib.indexByte HEXL (UInt8.ofNat n.val) = (a.val : Int) := by decide +kernel
  rcases this n with h | ⟨a, h1, h2⟩
  · exact .inl h
  · exact .inr ⟨a.val, a.isLt, h1, h2⟩
theorem hexJoin (a b : Nat) (ha : a < 16) (hb : b < 16) : IntKind.u8.wrap (IntKind.i64.wrap ((BitVec.ofInt IntKind.i64.bits (IntKind.i64.wrap ((a : Int) * 2 ^ min (4 : Int).toNat IntKind.i64.bits)) ||| BitVec.ofInt IntKind.i64.bits (b : Int)).toNat : Int)) = ((UInt8.ofNat (a * 16 + b)).toNat : Int) := by
  have : ∀ a b : Fin 16, IntKind.u8.wrap (IntKind.i64.wrap ((BitVec.ofInt IntKind.i64.bits (IntKind.i64.wrap ((a.val : Int) * 2 ^ min (4 : Int).toNat IntKind.i64.bits)) ||| BitVec.ofInt IntKind.i64.bits (b.val : Int)).toNat : Int)) = ((UInt8.ofNat (a.val * 16 + b.val)).toNat : Int) := by decide +kernel
  exact this ⟨a, ha⟩ ⟨b, hb⟩
theorem upC_yes {d : UInt8} (h : 97 ≤ d.toNat ∧ d.toNat ≤ 122) : IntKind.u8.wrap (IntKind.u8.wrap ((d.toNat : Int) - 97) + 65) = ((upC d).toNat : Int) ∧ IntKind.u8.wrap ((d.toNat : Int) - 32) = ((upC d).toNat : Int) := by
  revert h
  exact all_u8 (Q := fun d => 97 ≤ d.toNat ∧ d.toNat ≤ 122 → IntKind.u8.wrap (IntKind.u8.wrap ((d.toNat : Int) - 97) + 65) = ((upC d).toNat : Int) ∧ IntKind.u8.wrap ((d.toNat : Int) - 32) = ((upC d).toNat : Int)) (by decide +kernel) d
theorem upC_no {d : UInt8} (h : ¬ (97 ≤ d.toNat ∧ d.toNat ≤ 122)) : upC d = d := by rw [upC, if_neg h]
def decN (k : Bool) (s : List UInt8) : List UInt8 × Bool := match decFrom k s with | none => ([], false) | some d => (d, true)
theorem drop2 {s : List UInt8} {i : Nat} {c : UInt8} (h : s[i]? = some c) : s.drop i = c :: s.drop (i + 1) := by
  rw [List.drop_eq_getElem_cons (List.getElem?_eq_some_iff.1 h).1, (List.getElem?_eq_some_iff.1 h).2]
abbrev DecI (k : Bool) (s out : List UInt8) (i : Nat) : Prop := (decFrom k (s.drop i)).map (out ++ ·) = decFrom k s
section
variable {k : Bool} {s out : List UInt8} {i : Nat} {c d e : UInt8}
theorem dec_fin (hi : ¬ (i : Int) < (s.length : Nat)) (h : DecI k s out i) : decFrom k s = some out := by
  unfold DecI at h
  rw [List.drop_eq_nil_of_le (by omega), decFrom] at h; simpa using h.symm
theorem dec_hshort (hx : s[i]? = some c) (hc : c = 37) (hl : (s.length : Nat) ≤ (i + 2 : Nat)) (h : DecI k s out i) : decFrom k s = none := by
  unfold DecI at h
  subst hc
  rw [drop2 hx] at h
  have hlen : (s.drop (i + 1)).length ≤ 1 := by simp; omega
  match hd : s.drop (i + 1), hlen with
  | [], _ => rw [hd] at h; simp [decFrom] at h; exact h.symm
  | [x], _ => rw [hd] at h; simp [decFrom] at h; exact h.symm
  | _ :: _ :: _, hl => simp at hl
theorem dec_hbad (hx : s[i]? = some c) (hc : c = 37) (h1 : s[i + 1]? = some d) (h2 : s[i + 2]? = some e) (hb : hexV d = none ∨ hexV e = none) (h : DecI k s out i) : decFrom k s = none := by
  unfold DecI at h
  subst hc
  rw [drop2 hx, drop2 h1, drop2 h2] at h
  rw [decFrom, if_pos rfl] at h
  rcases hb with hb | hb
  · rw [hb] at h; simp at h; exact h.symm
  · rw [hb] at h
    cases hv : hexV d <;> rw [hv] at h <;> simp at h <;> exact h.symm
theorem dec_hex {a b : Nat} (hx : s[i]? = some c) (hc : c = 37) (h1 : s[i + 1]? = some d) (h2 : s[i + 2]? = some e) (ha : hexV d = some a) (hb : hexV e = some b) (h : DecI k s out i) : DecI k s (out ++ [UInt8.ofNat (a * 16 + b)]) (i + 3) := by
  unfold DecI at h ⊢
  subst hc
  rw [drop2 hx, drop2 h1, drop2 h2, decFrom_hex ha hb, Option.map_map] at h
  rw [← h]
  congr 1
  funext r
  simp
theorem dec_cshort (hx : s[i]? = some c) (hc : c = 94) (hk : k = true) (hl : (s.length : Nat) ≤ (i + 1 : Nat)) (h : DecI k s out i) : decFrom k s = none := by
  unfold DecI at h
  subst hc
  rw [drop2 hx, List.drop_eq_nil_of_le hl, decFrom, if_pos (.inr ⟨hk, rfl⟩)] at h
  simpa using h.symm
theorem dec_case (hx : s[i]? = some c) (hc : c = 94) (hk : k = true) (h1 : s[i + 1]? = some d) (h : DecI k s out i) : DecI k s (out ++ [upC d]) (i + 2) := by
  unfold DecI at h ⊢
  subst hc
  rw [drop2 hx, drop2 h1, decFrom_case hk, Option.map_map] at h
  rw [← h]
  congr 1
  funext r
  simp
theorem dec_plain (hx : s[i]? = some c) (hc : c ≠ 37) (hk : ¬ (k = true ∧ c = 94)) (h : DecI k s out i) : DecI k s (out ++ [c]) (i + 1) := by
  unfold DecI at h ⊢
  rw [drop2 hx, decFrom_plain hc hk, Option.map_map] at h
  rw [← h]
  congr 1
  funext r
  simp
end
theorem decR_bad {x : Enc} {p : List UInt8} (hp : isPathB p = true) (h : decFrom x.kase p = none) : decRef x p = ([], 6) := by rw [decRef, if_pos hp, h]
theorem el_load1 {P : Program} {W0 : World} {h0 hp : Hp} {sl : Slot} {xs : List (List PV)} {e : TypeId} {sz : Nat} {N : Slot → Hp → Prop} {i id ver : Nat} {es : List (List PV)} {p : PV} {r : List PV} {u : TypeId} {d : TypeDesc}
    (E : ElAt e sz h0 hp sl xs i id ver es) (hu : P.underlying u = some d) (ha : isAggD d = false) (hc : xs[i]? = some (p :: r)) (H : N (.sv (.one p)) hp) : popLoad P W0 u (.sv (.one (.ptr id ver i 0))) hp N := by
  refine el_load E hc ?_
  unfold loadK
  simp only [hu, ha, List.drop_zero]
  exact H
theorem mapM_step {α β : Type} {f : α → Option β} {l : List α} {i : Nat} {n : α} {d : β} {done : List β} (hx : l[i]? = some n) (hd : f n = some d) (h : (l.take i).mapM f = some done) : (l.take (i + 1)).mapM f = some (done ++ [d]) := by
  rw [List.take_add_one, hx, Option.toList_some, List.mapM_append, h]
  simp [hd]
theorem mapM_none {α β : Type} {f : α → Option β} : ∀ {l : List α} {n : α}, n ∈ l → f n = none → l.mapM f = none
  | [], _, h, _ => by simp at h
  | a :: l, n, h, hf => by
    rw [List.mapM_cons]
    rcases List.mem_cons.1 h with rfl | h
    · rw [hf]; rfl
    · rw [mapM_none h hf]
      cases f a <;> rfl
theorem dec_len (k : Bool) : ∀ (s d : List UInt8), decFrom k s = some d → d.length ≤ s.length
  | [], d, h => by rw [decFrom] at h; obtain rfl := Option.some.inj h; simp
  | [c], d, h => by
    rw [decFrom] at h
    split at h
    · cases h
    · obtain rfl := Option.some.inj h; simp
  | [c, e], d, h => by
    have ih := dec_len k [e]
    rw [decFrom] at h
    split at h
    · cases h
    · split at h
      · obtain rfl := Option.some.inj h; simp
      · obtain ⟨y, hy, rfl⟩ := Option.map_eq_some_iff.1 h
        have := ih y hy
        simp at this ⊢; omega
  | c :: e :: f :: r, d, h => by
    have ih1 := dec_len k r
    have ih2 := dec_len k (f :: r)
    have ih3 := dec_len k (e :: f :: r)
    rw [decFrom] at h
    split at h
    · split at h
      · obtain ⟨y, hy, rfl⟩ := Option.map_eq_some_iff.1 h
        have := ih1 y hy
        simp at this ⊢; omega
      · cases h
    · split at h
      · obtain ⟨y, hy, rfl⟩ := Option.map_eq_some_iff.1 h
        have := ih2 y hy
        simp at this ⊢; omega
      · obtain ⟨y, hy, rfl⟩ := Option.map_eq_some_iff.1 h
        have := ih3 y hy
        simp at this ⊢; omega
theorem join_mono {f : List UInt8 → Option (List UInt8)} (hf : ∀ s d, f s = some d → d.length ≤ s.length) : ∀ (l ds : List (List UInt8)), l.mapM f = some ds → ds.length = l.length ∧ (Lib.join ds [47]).length ≤ (Lib.join l [47]).length
  | [], ds, h => by
    rw [List.mapM_nil] at h
    obtain rfl := Option.some.inj h
    exact ⟨rfl, Nat.le_refl _⟩
  | [a], ds, h => by
    rw [List.mapM_cons, List.mapM_nil] at h
    cases ha : f a with
    | none => rw [ha] at h; cases h
    | some d =>
      rw [ha] at h
      obtain rfl := Option.some.inj h
      refine ⟨rfl, ?_⟩
      rw [Lib.join_one, Lib.join_one]
      exact hf a d ha
  | a :: b :: l, ds, h => by
    rw [List.mapM_cons] at h
    cases ha : f a with
    | none => rw [ha] at h; cases h
    | some d =>
      rw [ha] at h
      cases hr : (b :: l).mapM f with
      | none => rw [hr] at h; cases h
      | some r =>
        rw [hr] at h
        obtain rfl := Option.some.inj h
        obtain ⟨h1, h2⟩ := join_mono hf (b :: l) r hr
        match r, h1 with
        | x :: r, h1 =>
          have := hf a d ha
          refine ⟨by simp at h1 ⊢; omega, ?_⟩
          rw [join_cons2, join_cons2]
          simp only [List.length_append, List.length_cons]
          omega
theorem dp_none {x : Enc} {p : List UInt8} (h : (namesR p).mapM (decFrom x.kase) = none) : decPath x p = ([], 6) := by rw [decPath, h]
theorem dp_bad {x : Enc} {p : List UInt8} {l : List (List UInt8)} (h : (namesR p).mapM (decFrom x.kase) = some l) (hb : (namesR (Lib.join l [47])).length ≠ l.length ∨ isPathB (Lib.join l [47]) = false ∨ encPath x (Lib.join l [47]) ≠ (p, 0)) : decPath x p = ([], 6) := by
  rw [decPath, h]; simp only; rw [if_pos hb]
theorem dp_ok {x : Enc} {p : List UInt8} {l : List (List UInt8)} (h : (namesR p).mapM (decFrom x.kase) = some l) (h1 : (namesR (Lib.join l [47])).length = l.length) (h2 : isPathB (Lib.join l [47]) = true) (h3 : encPath x (Lib.join l [47]) = (p, 0)) : decPath x p = (Lib.join l [47], 0) := by
  rw [decPath, h]; simp only; rw [if_neg (by rintro (h | h | h); exact h h1; rw [h2] at h; cases h; exact h h3)]
theorem mix_get {done names : List (List UInt8)} {i : Nat} {n : List UInt8} (hl : done.length = i) (hx : names[i]? = some n) : (pstrs (done ++ names.drop i))[i]? = some [pstr n] := by
  simp only [List.getElem?_map]
  rw [List.getElem?_append_right (by omega), hl, Nat.sub_self, List.getElem?_drop, Nat.add_zero, hx]; rfl
theorem mix_set {done names : List (List UInt8)} {i : Nat} {n d : List UInt8} (hl : done.length = i) (hx : names[i]? = some n) : (pstrs (done ++ names.drop i)).set i [pstr d] = pstrs ((done ++ [d]) ++ names.drop (i + 1)) := by
  have e : names.drop i = n :: names.drop (i + 1) := by
    rw [List.drop_eq_getElem_cons (List.getElem?_eq_some_iff.1 hx).1, (List.getElem?_eq_some_iff.1 hx).2]
  have : (done ++ names.drop i).set i d = (done ++ [d]) ++ names.drop (i + 1) := by
    rw [List.set_append_right _ _ (by omega), e, show i - done.length = 0 by omega, List.set_cons_zero]; simp
  rw [← this, pstrs, pstrs, List.map_set]
theorem mix_len {done names : List (List UInt8)} {i : Nat} (hl : done.length = i) (hi : i ≤ names.length) : (pstrs (done ++ names.drop i)).length = names.length := by
  rw [List.length_map, List.length_append, List.length_drop]; omega
theorem nm86 : (Tryd.f86.name == "runtime.NumGoroutine") = false := by kernel_rfl
set_option maxHeartbeats 2000000 in
theorem decodeName_fun (W0 : World) (x : Enc) (s : List UInt8) (hs : s.length ≤ 1048576) :
  PFun Tryd.prog W0 86 [.agg (encPV x), .one (pstr s)] (.tup [.one (pstr (decN x.kase s).1), .one (pbool (decN x.kase s).2)]) := by
 intro h
 refine pcalls2 (n := 94) Tryd.func86 rfl nm86 rfl fun hb => ?_
 refine pwp_then fun N1 hN1 => ?_
 refine pwp_reg fun R2 hR2 => ?_
 refine pops_to rfl fun M hM => ?_
 simp only [pop, St.eval, constSlot, upd_at, Nat.reduceEqDiff, if_true, if_false, popBox, popBoxRo, slotCells, encPV]
 refine .inr ⟨Nat.succ_pos _, hM _ _ ?_⟩
 clear hM M
 refine pops_mv (.inr rfl) rfl (by simp only [St.eval, constSlot] <;> rfl) ?_
 refine pops_mv (.inr rfl) rfl (by simp only [St.eval, constSlot] <;> rfl) ?_
 refine pops_done (hR2 _ ?_)
 clear hR2 R2
 try simp only [thenK, scopeK]
 refine hN1 _ ?_
 clear hN1 N1
 refine pwp_then fun N3 hN3 => ?_
 refine pwp_reg fun R4 hR4 => ?_
 refine pops_mv (.inr rfl) rfl (by simp only [St.eval, constSlot] <;> rfl) ?_
 refine pops_done (hR4 _ ?_)
 clear hR4 R4
 try simp only [thenK, scopeK]
 refine hN3 _ ?_
 clear hN3 N3
 refine pwp_then fun N5 hN5 => ?_
 refine pwp_then fun N6 hN6 => ?_
 refine pwp_reg fun R7 hR7 => ?_
 refine pops_mv (.inr rfl) rfl (by simp only [St.eval, constSlot] <;> rfl) ?_
 refine pops_done (hR7 _ ?_)
 clear hR7 R7
 try simp only [thenK, scopeK]
 refine hN6 _ ?_
 clear hN6 N6
 refine pwp_block ?_
 refine pwp_loop (fun k σ => ∃ (i : Nat), ∃ (sl : Slot), ∃ (out : List UInt8), (k = s.length - i) ∧ (i ≤ s.length) ∧ (DecI x.kase s out i) ∧ (out.length ≤ i) ∧ (Keeps h σ.hp ∧ RowIs 5 1 h σ.hp sl (out.map byteCell)) ∧ (σ.env 2 = .sv (.one (.rop (encPV x)))) ∧ (σ.env 1 = .sv (.one (pstr s))) ∧ (σ.env 6 = sl) ∧ (σ.env 7 = .sv (.one (pint (i : Nat))))) _ ⟨_, .refl _ _, 0, (.sv (.one (.val (.slice none 0 0)))), [], rfl, ?_⟩ ?_
 · exact ⟨Nat.zero_le _, by unfold DecI; simp, by simp, ⟨Same.keeps (Same.refl _), .nil _ _ _ _⟩, by simp only [upd_at, Nat.reduceEqDiff, if_true, if_false, encPV], by simp only [upd_at, Nat.reduceEqDiff, if_true, if_false, encPV], by simp only [upd_at, Nat.reduceEqDiff, if_true, if_false, encPV], by simp only [upd_at, Nat.reduceEqDiff, if_true, if_false]; rfl⟩
 ·rintro k ⟨e, hp0⟩ ⟨i, sl, out, hk0, hx0_0, hx0_1, hx0_2, sl0, e0_2, e0_1, e0_6, e0_7⟩
  simp only at sl0 e0_2 e0_1 e0_6 e0_7
  obtain ⟨hk0, ho⟩ := sl0
  refine pwp_hpok fun hok0 => ?_
  simp only at hok0
  refine pwp_then fun N8 hN8 => ?_
  refine pwp_then fun N9 hN9 => ?_
  refine pwp_reg fun R10 hR10 => ?_
  refine pops_mv (.inl rfl) rfl (by simp only [St.eval, upd_at, Nat.reduceEqDiff, if_true, if_false, e0_2, e0_1, e0_6, e0_7, encPV] <;> rfl) ?_
  refine pops_mv (.inl rfl) rfl (by simp only [St.eval, upd_at, Nat.reduceEqDiff, if_true, if_false, e0_2, e0_1, e0_6, e0_7, encPV] <;> rfl) ?_
  refine pops_to rfl fun M hM => ?_
  simp only [pop, St.eval, constSlot, upd_at, Nat.reduceEqDiff, if_true, if_false, popCall, List.toList_toArray, List.map_cons, List.map_nil, popBuiltin, popLen, lenOfSlot, List.length_map, Tryd.underlying9, eq_self, true_and, and_true, str_list, str_size, str_app, str_cut, str_get, e0_2, e0_1, e0_6, e0_7, encPV]
  refine hM _ _ ?_
  clear hM M
  refine pops_to rfl fun M hM => ?_
  simp only [pop, St.eval, constSlot, upd_at, Nat.reduceEqDiff, if_true, if_false, popBin, binK, intK, strK, eqK, eq_self, true_and, and_true, e0_2, e0_1, e0_6, e0_7, encPV]
  refine hM _ _ ?_
  clear hM M
  refine pops_done (hR10 _ ?_)
  clear hR10 R10
  try simp only [thenK, scopeK]
  refine hN9 _ ?_
  clear hN9 N9
  refine pwp_cond (by simp only [St.eval, upd_at, Nat.reduceEqDiff, if_true, if_false, e0_2, e0_1, e0_6, e0_7, encPV] <;> rfl) (fun c15 => ?_) (fun c15 => ?_)
  ·skip
   have hi : i < s.length := by have := of_decide_eq_true c15; omega
   obtain ⟨c, hx⟩ : ∃ c, s[i]? = some c := ⟨_, List.getElem?_eq_getElem hi⟩
   have hw1 := wrap_succ (i := i) (by omega)
   have hw2 : IntKind.i64.wrap ((i : Int) + 2) = ((i + 2 : Nat) : Int) := by rw [wrap_i64 (by omega) (by omega)]; omega
   have hw3 := wrap_succ (i := i + 2) (by omega)
   have hw4 := wrap_succ (i := i + 1) (by omega)
   refine pwp_skip ?_
   try simp only [thenK, scopeK]
   refine hN8 _ ?_
   clear hN8 N8
   refine pwp_then fun N11 hN11 => ?_
   refine pwp_block ?_
   refine pwp_then fun N12 hN12 => ?_
   refine pwp_reg fun R13 hR13 => ?_
   refine pops_mv (.inl rfl) rfl (by simp only [St.eval, upd_at, Nat.reduceEqDiff, if_true, if_false, e0_2, e0_1, e0_6, e0_7, encPV] <;> rfl) ?_
   refine pops_mv (.inl rfl) rfl (by simp only [St.eval, upd_at, Nat.reduceEqDiff, if_true, if_false, e0_2, e0_1, e0_6, e0_7, encPV] <;> rfl) ?_
   refine pops_to rfl fun M hM => ?_
   simp only [pop, St.eval, constSlot, upd_at, Nat.reduceEqDiff, if_true, if_false, popIndex, partK, Tryd.underlying9, eq_self, true_and, and_true, str_list, str_size, str_app, str_cut, str_get, e0_2, e0_1, e0_6, e0_7, encPV, hx, Int.toNat_natCast]
   refine ⟨Int.natCast_nonneg _, hM _ _ ?_⟩
   clear hM M
   refine pops_mv (.inr rfl) rfl (by simp only [St.eval, upd_at, Nat.reduceEqDiff, if_true, if_false, e0_2, e0_1, e0_6, e0_7, encPV] <;> rfl) ?_
   refine pops_done (hR13 _ ?_)
   clear hR13 R13
   try simp only [thenK, scopeK]
   refine hN12 _ ?_
   clear hN12 N12
   refine pwp_block ?_
   refine pwp_then fun N14 hN14 => ?_
   refine pwp_reg fun R15 hR15 => ?_
   refine pops_mv (.inl rfl) rfl (by simp only [St.eval, upd_at, Nat.reduceEqDiff, if_true, if_false, e0_2, e0_1, e0_6, e0_7, encPV] <;> rfl) ?_
   refine pops_to rfl fun M hM => ?_
   simp only [pop, St.eval, constSlot, upd_at, Nat.reduceEqDiff, if_true, if_false, popBin, binK, intK, strK, eqK, Tryd.underlying5, isPtr, eq_self, true_and, and_true, e0_2, e0_1, e0_6, e0_7, encPV]
   refine hM _ _ ?_
   clear hM M
   refine pops_mv (.inr rfl) rfl (by simp only [St.eval, upd_at, Nat.reduceEqDiff, if_true, if_false, e0_2, e0_1, e0_6, e0_7, encPV] <;> rfl) ?_
   refine pops_done (hR15 _ ?_)
   clear hR15 R15
   try simp only [thenK, scopeK]
   refine hN14 _ ?_
   clear hN14 N14
   refine pwp_cond (by simp only [St.eval, upd_at, Nat.reduceEqDiff, if_true, if_false, e0_2, e0_1, e0_6, e0_7, encPV] <;> rfl) (fun c25 => ?_) (fun c25 => ?_)
   ·skip
    rw [u8_37] at c25
    have hc37 : c = 37 := by simpa using c25
    refine pwp_then fun N16 hN16 => ?_
    refine pwp_then fun N17 hN17 => ?_
    refine pwp_reg fun R18 hR18 => ?_
    refine pops_mv (.inl rfl) rfl (by simp only [St.eval, upd_at, Nat.reduceEqDiff, if_true, if_false, e0_2, e0_1, e0_6, e0_7, encPV] <;> rfl) ?_
    refine pops_to rfl fun M hM => ?_
    simp only [pop, St.eval, constSlot, upd_at, Nat.reduceEqDiff, if_true, if_false, popBin, binK, intK, strK, eqK, eq_self, true_and, and_true, e0_2, e0_1, e0_6, e0_7, encPV, hw2]
    refine hM _ _ ?_
    clear hM M
    refine pops_mv (.inl rfl) rfl (by simp only [St.eval, upd_at, Nat.reduceEqDiff, if_true, if_false, e0_2, e0_1, e0_6, e0_7, encPV] <;> rfl) ?_
    refine pops_to rfl fun M hM => ?_
    simp only [pop, St.eval, constSlot, upd_at, Nat.reduceEqDiff, if_true, if_false, popCall, List.toList_toArray, List.map_cons, List.map_nil, popBuiltin, popLen, lenOfSlot, List.length_map, Tryd.underlying9, eq_self, true_and, and_true, str_list, str_size, str_app, str_cut, str_get, e0_2, e0_1, e0_6, e0_7, encPV]
    refine hM _ _ ?_
    clear hM M
    refine pops_to rfl fun M hM => ?_
    simp only [pop, St.eval, constSlot, upd_at, Nat.reduceEqDiff, if_true, if_false, popBin, binK, intK, strK, eqK, eq_self, true_and, and_true, e0_2, e0_1, e0_6, e0_7, encPV]
    refine hM _ _ ?_
    clear hM M
    refine pops_done (hR18 _ ?_)
    clear hR18 R18
    try simp only [thenK, scopeK]
    refine hN17 _ ?_
    clear hN17 N17
    refine pwp_cond (by simp only [St.eval, upd_at, Nat.reduceEqDiff, if_true, if_false, e0_2, e0_1, e0_6, e0_7, encPV] <;> rfl) (fun c32 => ?_) (fun c32 => ?_)
    ·skip
     have hlen2 : s.length ≤ i + 2 := by have := of_decide_eq_true c32; omega
     have hd0 := dec_hshort hx hc37 hlen2 hx0_1
     have hdn : decN x.kase s = ([], false) := by rw [decN, hd0]
     refine pwp_then fun N19 hN19 => ?_
     refine pwp_reg fun R20 hR20 => ?_
     refine pops_mv (.inr rfl) rfl (by simp only [St.eval, constSlot] <;> rfl) ?_
     refine pops_mv (.inr rfl) rfl (by simp only [St.eval, constSlot] <;> rfl) ?_
     refine pops_done (hR20 _ ?_)
     clear hR20 R20
     try simp only [thenK, scopeK]
     refine hN19 _ ?_
     clear hN19 N19
     refine pwp_ret ?_
     simp only [thenK, blockK, scopeK, bodyK]
     clear hN16 N16 hN11 N11 hN5 N5
     exact ⟨_, rfl, by rw [hdn]; exact endKeeps2 (hk0.trans (Same.keeps (Same.refl _))) rfl⟩
    ·skip
     have hlen2 : i + 2 < s.length := by have := of_decide_eq_false c32; omega
     obtain ⟨d, hd⟩ : ∃ d, s[i + 1]? = some d := ⟨_, List.getElem?_eq_getElem (by omega)⟩
     obtain ⟨e2, he2⟩ : ∃ d, s[i + 2]? = some d := ⟨_, List.getElem?_eq_getElem (by omega)⟩
     refine pwp_skip ?_
     try simp only [thenK, scopeK]
     refine hN16 _ ?_
     clear hN16 N16
     refine pwp_then fun N21 hN21 => ?_
     refine pwp_dreg 12 mixed (by decide +kernel) fun R22 hR22 => ?_
     simp only [List.take_succ_cons, List.take_zero, List.drop_succ_cons, List.drop_zero]
     apply lex_to
     · rfl
     ·intro h' s' M hM
      simp only [pop, St.eval, constSlot, upd_at, Nat.reduceEqDiff, if_true, if_false, eq_self, true_and, and_true, str_list, str_size, str_app, str_cut, str_get, e0_2, e0_1, e0_6, e0_7, encPV, s'.1]
      exact hM _ (.refl _)
     apply lex_to
     · rfl
     ·intro h' s' M hM
      simp only [pop, St.eval, constSlot, upd_at, Nat.reduceEqDiff, if_true, if_false, eq_self, true_and, and_true, str_list, str_size, str_app, str_cut, str_get, e0_2, e0_1, e0_6, e0_7, encPV, s'.1]
      exact hM _ (.refl _)
     apply lex_to
     · rfl
     ·intro h' s' M hM
      simp only [pop, St.eval, constSlot, upd_at, Nat.reduceEqDiff, if_true, if_false, popBin, binK, intK, strK, eqK, eq_self, true_and, and_true, e0_2, e0_1, e0_6, e0_7, encPV, hw1, s'.1]
      exact hM _ (.refl _)
     apply lex_to
     · rfl
     ·intro h' s' M hM
      simp only [pop, St.eval, constSlot, upd_at, Nat.reduceEqDiff, if_true, if_false, popIndex, partK, Tryd.underlying9, eq_self, true_and, and_true, str_list, str_size, str_app, str_cut, str_get, e0_2, e0_1, e0_6, e0_7, encPV, hd, Int.toNat_natCast, s'.1]
      refine ⟨Int.natCast_nonneg _, ?_⟩
      exact hM _ (.refl _)
     apply lex_to
     · rfl
     ·intro h' s' M hM
      simp only [pop, St.eval, constSlot, upd_at, Nat.reduceEqDiff, if_true, if_false, popCall, List.toList_toArray, List.map_cons, List.map_nil, svs, List.mapM_cons, List.mapM_nil, Option.bind_eq_bind, Option.bind_some, Option.pure_def, List.append_nil, List.cons_append, List.nil_append, str_size, e0_2, e0_1, e0_6, e0_7, encPV, s'.1]
      refine PFun.use (indexByte_fun W0 HEXL d) fun hp s => hM _ s
     apply lex_to
     · rfl
     ·intro h' s' M hM
      simp only [pop, St.eval, constSlot, upd_at, Nat.reduceEqDiff, if_true, if_false, eq_self, true_and, and_true, str_list, str_size, str_app, str_cut, str_get, e0_2, e0_1, e0_6, e0_7, encPV, s'.1]
      exact hM _ (.refl _)
     apply lex_to
     · rfl
     ·intro h' s' M hM
      simp only [pop, St.eval, constSlot, upd_at, Nat.reduceEqDiff, if_true, if_false, eq_self, true_and, and_true, str_list, str_size, str_app, str_cut, str_get, e0_2, e0_1, e0_6, e0_7, encPV, s'.1]
      exact hM _ (.refl _)
     apply lex_to
     · rfl
     ·intro h' s' M hM
      simp only [pop, St.eval, constSlot, upd_at, Nat.reduceEqDiff, if_true, if_false, popBin, binK, intK, strK, eqK, eq_self, true_and, and_true, e0_2, e0_1, e0_6, e0_7, encPV, hw2, s'.1]
      exact hM _ (.refl _)
     apply lex_to
     · rfl
     ·intro h' s' M hM
      simp only [pop, St.eval, constSlot, upd_at, Nat.reduceEqDiff, if_true, if_false, popIndex, partK, Tryd.underlying9, eq_self, true_and, and_true, str_list, str_size, str_app, str_cut, str_get, e0_2, e0_1, e0_6, e0_7, encPV, he2, Int.toNat_natCast, s'.1]
      refine ⟨Int.natCast_nonneg _, ?_⟩
      exact hM _ (.refl _)
     apply lex_to
     · rfl
     ·intro h' s' M hM
      simp only [pop, St.eval, constSlot, upd_at, Nat.reduceEqDiff, if_true, if_false, popCall, List.toList_toArray, List.map_cons, List.map_nil, svs, List.mapM_cons, List.mapM_nil, Option.bind_eq_bind, Option.bind_some, Option.pure_def, List.append_nil, List.cons_append, List.nil_append, str_size, e0_2, e0_1, e0_6, e0_7, encPV, s'.1]
      refine PFun.use (indexByte_fun W0 HEXL e2) fun hp s => hM _ s
     apply lex_to
     · rfl
     ·intro h' s' M hM
      simp only [pop, St.eval, constSlot, upd_at, Nat.reduceEqDiff, if_true, if_false, eq_self, true_and, and_true, str_list, str_size, str_app, str_cut, str_get, e0_2, e0_1, e0_6, e0_7, encPV, s'.1]
      exact hM _ (.refl _)
     apply lex_to
     · rfl
     ·intro h' s' M hM
      simp only [pop, St.eval, constSlot, upd_at, Nat.reduceEqDiff, if_true, if_false, eq_self, true_and, and_true, str_list, str_size, str_app, str_cut, str_get, e0_2, e0_1, e0_6, e0_7, encPV, s'.1]
      exact hM _ (.refl _)
     refine lex_done fun hq sq => ?_
     skip
     refine pops_done (hR22 _ ?_)
     clear hR22 R22
     try simp only [thenK, scopeK]
     refine hN21 _ ?_
     clear hN21 N21
     refine pwp_then fun N23 hN23 => ?_
     refine pwp_then fun N24 hN24 => ?_
     refine pwp_reg fun R25 hR25 => ?_
     refine pops_mv (.inl rfl) rfl (by simp only [St.eval, upd_at, Nat.reduceEqDiff, if_true, if_false, e0_2, e0_1, e0_6, e0_7, encPV] <;> rfl) ?_
     refine pops_to rfl fun M hM => ?_
     simp only [pop, St.eval, constSlot, upd_at, Nat.reduceEqDiff, if_true, if_false, popBin, binK, intK, strK, eqK, eq_self, true_and, and_true, e0_2, e0_1, e0_6, e0_7, encPV]
     refine hM _ _ ?_
     clear hM M
     refine pops_mv (.inl rfl) rfl (by simp only [St.eval, upd_at, Nat.reduceEqDiff, if_true, if_false, e0_2, e0_1, e0_6, e0_7, encPV] <;> rfl) ?_
     apply pops_or0 3 45 48 [46, 47] (by simp only [upd_at, Nat.reduceEqDiff, if_true, if_false, e0_2, e0_1, e0_6, e0_7, encPV] <;> rfl)
     ·skip
      intro g45_0 J26 hJ26
      simp only [List.take_succ_cons, List.take_zero]
      simp only [anyAt_cons, anyAt_nil] at hJ26
      refine pops_mvg (.inl rfl) rfl rfl (by simp only [upd_at, Nat.reduceEqDiff, if_true, if_false, e0_2, e0_1, e0_6, e0_7, encPV, g45_0]) (by simp only [St.eval, upd_at, Nat.reduceEqDiff, if_true, if_false, e0_2, e0_1, e0_6, e0_7, encPV, g45_0] <;> rfl) ?_
      refine pops_do rfl rfl (by simp only [upd_at, Nat.reduceEqDiff, if_true, if_false, e0_2, e0_1, e0_6, e0_7, encPV, g45_0]) fun M hM => ?_
      simp only [pop, St.eval, constSlot, upd_at, Nat.reduceEqDiff, if_true, if_false, popBin, binK, intK, strK, eqK, eq_self, true_and, and_true, e0_2, e0_1, e0_6, e0_7, encPV, g45_0]
      refine hM _ _ ?_
      clear hM M
      refine pops_to rfl fun M hM => ?_
      simp only [pop, St.eval, constSlot, upd_at, Nat.reduceEqDiff, if_true, if_false, popIf, true_implies, false_implies, Bool.true_eq_false, Bool.false_eq_true, reduceCtorEq, true_and, and_true, e0_2, e0_1, e0_6, e0_7, encPV, g45_0]
      refine hM _ _ ?_
      clear hM M
      exact pops_done (hJ26 _ (wk_same (wk_any ((wk_any (Wk.refl _ _))))))
     ·skip
      intro g45_0 J26 hJ26
      simp only [List.take_succ_cons, List.take_zero]
      simp only [anyAt_cons, anyAt_nil] at hJ26
      refine pops_off (b := true) rfl rfl (by simp only [upd_at, Nat.reduceEqDiff, if_true, if_false, e0_2, e0_1, e0_6, e0_7, encPV, g45_0]) (by decide) ?_
      refine pops_off (b := true) rfl rfl (by simp only [upd_at, Nat.reduceEqDiff, if_true, if_false, e0_2, e0_1, e0_6, e0_7, encPV, g45_0]) (by decide) ?_
      refine pops_to rfl fun M hM => ?_
      simp only [pop, St.eval, constSlot, upd_at, Nat.reduceEqDiff, if_true, if_false, popIf, true_implies, false_implies, Bool.true_eq_false, Bool.false_eq_true, reduceCtorEq, true_and, and_true, e0_2, e0_1, e0_6, e0_7, encPV, g45_0]
      refine hM _ _ ?_
      clear hM M
      exact pops_done (hJ26 _ (wk_same (wk_any ((wk_any (Wk.refl _ _))))))
     simp only [List.drop_succ_cons, List.drop_zero, anyAt_cons, anyAt_nil]
     refine pops_done (hR25 _ ?_)
     clear hR25 R25
     try simp only [thenK, scopeK]
     refine hN24 _ ?_
     clear hN24 N24
     refine pwp_cond (by simp only [St.eval, upd_at, Nat.reduceEqDiff, if_true, if_false, e0_2, e0_1, e0_6, e0_7, encPV] <;> rfl) (fun c48 => ?_) (fun c48 => ?_)
     ·skip
      have hv : hexV d = none ∨ hexV e2 = none := by
        rcases hexI_all d with h1 | ⟨a, h1, h2, h3⟩
        · exact .inl h1.1
        · rcases hexI_all e2 with h4 | ⟨b, h4, h5, h6⟩
          · exact .inr h4.1
          · rw [h3, h6] at c48; simp at c48; omega
      have hd0 := dec_hbad hx hc37 hd he2 hv hx0_1
      have hdn : decN x.kase s = ([], false) := by rw [decN, hd0]
      refine pwp_then fun N27 hN27 => ?_
      refine pwp_reg fun R28 hR28 => ?_
      refine pops_mv (.inr rfl) rfl (by simp only [St.eval, constSlot] <;> rfl) ?_
      refine pops_mv (.inr rfl) rfl (by simp only [St.eval, constSlot] <;> rfl) ?_
      refine pops_done (hR28 _ ?_)
      clear hR28 R28
      try simp only [thenK, scopeK]
      refine hN27 _ ?_
      clear hN27 N27
      refine pwp_ret ?_
      simp only [thenK, blockK, scopeK, bodyK]
      clear hN23 N23 hN11 N11 hN5 N5
      exact ⟨_, rfl, by rw [hdn]; exact endKeeps2 (hk0.trans (Same.keeps sq)) rfl⟩
     ·skip
      obtain ⟨a, ha16, hva, hia⟩ : ∃ a, a < 16 ∧ hexV d = some a ∧ Lib.indexByte HEXL d = (a : Int) := by
        rcases hexI_all d with h1 | h1
        · rw [h1.2] at c48; simp at c48
        · exact h1
      obtain ⟨b, hb16, hvb, hib⟩ : ∃ a, a < 16 ∧ hexV e2 = some a ∧ Lib.indexByte HEXL e2 = (a : Int) := by
        rcases hexI_all e2 with h1 | h1
        · rw [h1.2] at c48; simp at c48
        · exact h1
      have hj := hexJoin a b ha16 hb16
      refine pwp_skip ?_
      try simp only [thenK, scopeK]
      refine hN23 _ ?_
      clear hN23 N23
      refine pwp_then fun N29 hN29 => ?_
      refine pwp_reg fun R30 hR30 => ?_
      refine pops_mv (.inl rfl) rfl (by simp only [St.eval, upd_at, Nat.reduceEqDiff, if_true, if_false, e0_2, e0_1, e0_6, e0_7, encPV] <;> rfl) ?_
      refine pops_to rfl fun M hM => ?_
      simp only [pop, St.eval, constSlot, upd_at, Nat.reduceEqDiff, if_true, if_false, eq_self, true_and, and_true, str_list, str_size, str_app, str_cut, str_get, e0_2, e0_1, e0_6, e0_7, encPV, hia]
      refine hM _ _ ?_
      clear hM M
      refine pops_to rfl fun M hM => ?_
      simp only [pop, St.eval, constSlot, upd_at, Nat.reduceEqDiff, if_true, if_false, popBin, binK, intK, strK, eqK, eq_self, true_and, and_true, e0_2, e0_1, e0_6, e0_7, encPV]
      refine ⟨by decide, hM _ _ ?_⟩
      clear hM M
      refine pops_to rfl fun M hM => ?_
      simp only [pop, St.eval, constSlot, upd_at, Nat.reduceEqDiff, if_true, if_false, eq_self, true_and, and_true, str_list, str_size, str_app, str_cut, str_get, e0_2, e0_1, e0_6, e0_7, encPV, hib]
      refine hM _ _ ?_
      clear hM M
      refine pops_to rfl fun M hM => ?_
      simp only [pop, St.eval, constSlot, upd_at, Nat.reduceEqDiff, if_true, if_false, popBin, binK, intK, strK, eqK, eq_self, true_and, and_true, e0_2, e0_1, e0_6, e0_7, encPV]
      refine hM _ _ ?_
      clear hM M
      refine pops_to rfl fun M hM => ?_
      simp only [pop, St.eval, constSlot, upd_at, Nat.reduceEqDiff, if_true, if_false, popConvert, Tryd.underlying3, Tryd.underlying5, eq_self, true_and, and_true, str_list, str_size, str_app, str_cut, str_get, e0_2, e0_1, e0_6, e0_7, encPV, hj]
      refine hM _ _ ?_
      clear hM M
      refine pops_to rfl fun M hM => ?_
      simp only [pop, St.eval, constSlot, upd_at, Nat.reduceEqDiff, if_true, if_false, popBuildSlice, slotCells, List.toList_toArray, List.map_cons, List.map_nil, List.mapM_cons, List.mapM_nil, Option.bind_eq_bind, Option.bind_some, Option.pure_def, Tryd.underlying73, sz5, ze5, by5, eq_self, true_and, and_true, str_list, str_size, str_app, str_cut, str_get, e0_2, e0_1, e0_6, e0_7, encPV]
      refine ⟨by decide, by decide, rfl, rfl, by simp, by decide, rfl, hM _ _ ?_⟩
      clear hM M
      refine pops_to rfl fun M hM => ?_
      simp only [pop, St.eval, constSlot, upd_at, Nat.reduceEqDiff, if_true, if_false, popCall, List.toList_toArray, List.map_cons, List.map_nil, popBuiltin, eq_self, true_and, and_true, str_list, str_size, str_app, str_cut, str_get, e0_2, e0_1, e0_6, e0_7, encPV]
      refine row_app (ys := ([UInt8.ofNat (a * 16 + b)] : List UInt8).map byteCell) hb Tryd.underlying73 sz5 by5 ze5 rfl (by decide) (ho.same sq) (hk0.trans (Same.keeps sq)) rfl (.inr rfl) ⟨by simp; omega, by simp; omega⟩ fun sl2 hp2 ho2 hk2 => hM _ _ ?_
      clear hM M
      refine pops_mv (.inr rfl) rfl (by simp only [St.eval, upd_at, Nat.reduceEqDiff, if_true, if_false, e0_2, e0_1, e0_6, e0_7, encPV] <;> rfl) ?_
      refine pops_done (hR30 _ ?_)
      clear hR30 R30
      try simp only [thenK, scopeK]
      refine hN29 _ ?_
      clear hN29 N29
      refine pwp_reg fun R31 hR31 => ?_
      refine pops_mv (.inl rfl) rfl (by simp only [St.eval, upd_at, Nat.reduceEqDiff, if_true, if_false, e0_2, e0_1, e0_6, e0_7, encPV] <;> rfl) ?_
      refine pops_to rfl fun M hM => ?_
      simp only [pop, St.eval, constSlot, upd_at, Nat.reduceEqDiff, if_true, if_false, popBin, binK, intK, strK, eqK, eq_self, true_and, and_true, e0_2, e0_1, e0_6, e0_7, encPV, hw2]
      refine hM _ _ ?_
      clear hM M
      refine pops_mv (.inr rfl) rfl (by simp only [St.eval, upd_at, Nat.reduceEqDiff, if_true, if_false, e0_2, e0_1, e0_6, e0_7, encPV] <;> rfl) ?_
      refine pops_done (hR31 _ ?_)
      clear hR31 R31
      try simp only [blockK, thenK, scopeK]
      try simp only [blockK, thenK, scopeK]
      try simp only [thenK, scopeK]
      refine hN11 _ ?_
      clear hN11 N11
      refine pwp_reg fun R32 hR32 => ?_
      refine pops_mv (.inl rfl) rfl (by simp only [St.eval, upd_at, Nat.reduceEqDiff, if_true, if_false, e0_2, e0_1, e0_6, e0_7, encPV] <;> rfl) ?_
      refine pops_to rfl fun M hM => ?_
      simp only [pop, St.eval, constSlot, upd_at, Nat.reduceEqDiff, if_true, if_false, popBin, binK, intK, strK, eqK, eq_self, true_and, and_true, e0_2, e0_1, e0_6, e0_7, encPV]
      refine hM _ _ ?_
      clear hM M
      refine pops_mv (.inr rfl) rfl (by simp only [St.eval, upd_at, Nat.reduceEqDiff, if_true, if_false, e0_2, e0_1, e0_6, e0_7, encPV] <;> rfl) ?_
      refine pops_done (hR32 _ ?_)
      clear hR32 R32
      try simp only [thenK, scopeK]
      exact ⟨_, by omega, _, .refl _ _, i + 3, sl2, out ++ [UInt8.ofNat (a * 16 + b)], rfl, by omega, dec_hex hx hc37 hd he2 hva hvb hx0_1, by simp; omega, ⟨hk2, by rw [List.map_append]; exact ho2⟩, by simp only [upd_at, Nat.reduceEqDiff, if_true, if_false, e0_2, e0_1, e0_6, e0_7, encPV], by simp only [upd_at, Nat.reduceEqDiff, if_true, if_false, e0_2, e0_1, e0_6, e0_7, encPV], by simp only [upd_at, Nat.reduceEqDiff, if_true, if_false, e0_2, e0_1, e0_6, e0_7, encPV], by simp only [upd_at, Nat.reduceEqDiff, if_true, if_false, e0_7, hw1, hw2, hw3, hw4]⟩
   ·skip
    rw [u8_37] at c25
    have hc37 : c ≠ 37 := by simpa using c25
    refine pwp_then fun N33 hN33 => ?_
    refine pwp_reg fun R34 hR34 => ?_
    refine pops_to rfl fun M hM => ?_
    simp only [pop, St.eval, constSlot, upd_at, Nat.reduceEqDiff, if_true, if_false, popFieldAddr, fieldOf, List.drop_succ_cons, List.drop_zero, List.getElem?_toArray, List.getElem?_cons_zero, List.getElem?_cons_succ, Tryd.underlying64, sz4, e0_2, e0_1, e0_6, e0_7, encPV]
    refine ⟨⟨_, rfl⟩, hM _ _ ?_⟩
    clear hM M
    refine pops_to rfl fun M hM => ?_
    simp only [pop, St.eval, constSlot, upd_at, Nat.reduceEqDiff, if_true, if_false, popLoad, loadK, isAggD, List.drop_zero, List.getElem?_toArray, List.getElem?_cons_zero, List.getElem?_cons_succ, Bool.false_eq_true, Tryd.underlying4, sz4, eq_self, true_and, and_true, e0_2, e0_1, e0_6, e0_7, encPV]
    refine hM _ _ ?_
    clear hM M
    refine pops_mv (.inl rfl) rfl (by simp only [St.eval, upd_at, Nat.reduceEqDiff, if_true, if_false, e0_2, e0_1, e0_6, e0_7, encPV] <;> rfl) ?_
    apply pops_and0 3 62 65 [63, 64] (by simp only [upd_at, Nat.reduceEqDiff, if_true, if_false, e0_2, e0_1, e0_6, e0_7, encPV] <;> rfl)
    ·skip
     intro g62_0 J35 hJ35
     simp only [List.take_succ_cons, List.take_zero]
     simp only [anyAt_cons, anyAt_nil] at hJ35
     refine pops_mvg (.inl rfl) rfl rfl (by simp only [upd_at, Nat.reduceEqDiff, if_true, if_false, e0_2, e0_1, e0_6, e0_7, encPV, g62_0]) (by simp only [St.eval, upd_at, Nat.reduceEqDiff, if_true, if_false, e0_2, e0_1, e0_6, e0_7, encPV, g62_0] <;> rfl) ?_
     refine pops_do rfl rfl (by simp only [upd_at, Nat.reduceEqDiff, if_true, if_false, e0_2, e0_1, e0_6, e0_7, encPV, g62_0]) fun M hM => ?_
     simp only [pop, St.eval, constSlot, upd_at, Nat.reduceEqDiff, if_true, if_false, popBin, binK, intK, strK, eqK, Tryd.underlying5, isPtr, eq_self, true_and, and_true, e0_2, e0_1, e0_6, e0_7, encPV, g62_0]
     refine hM _ _ ?_
     clear hM M
     refine pops_to rfl fun M hM => ?_
     simp only [pop, St.eval, constSlot, upd_at, Nat.reduceEqDiff, if_true, if_false, popIf, true_implies, false_implies, Bool.true_eq_false, Bool.false_eq_true, reduceCtorEq, true_and, and_true, e0_2, e0_1, e0_6, e0_7, encPV, g62_0]
     refine hM _ _ ?_
     clear hM M
     exact pops_done (hJ35 _ (wk_same (wk_any ((wk_any (Wk.refl _ _))))))
    ·skip
     intro g62_0 J35 hJ35
     simp only [List.take_succ_cons, List.take_zero]
     simp only [anyAt_cons, anyAt_nil] at hJ35
     refine pops_off (b := false) rfl rfl (by simp only [upd_at, Nat.reduceEqDiff, if_true, if_false, e0_2, e0_1, e0_6, e0_7, encPV, g62_0]) (by decide) ?_
     refine pops_off (b := false) rfl rfl (by simp only [upd_at, Nat.reduceEqDiff, if_true, if_false, e0_2, e0_1, e0_6, e0_7, encPV, g62_0]) (by decide) ?_
     refine pops_to rfl fun M hM => ?_
     simp only [pop, St.eval, constSlot, upd_at, Nat.reduceEqDiff, if_true, if_false, popIf, true_implies, false_implies, Bool.true_eq_false, Bool.false_eq_true, reduceCtorEq, true_and, and_true, e0_2, e0_1, e0_6, e0_7, encPV, g62_0]
     refine hM _ _ ?_
     clear hM M
     exact pops_done (hJ35 _ (wk_same (wk_any ((wk_any (Wk.refl _ _))))))
    simp only [List.drop_succ_cons, List.drop_zero, anyAt_cons, anyAt_nil]
    refine pops_mv (.inr rfl) rfl (by simp only [St.eval, upd_at, Nat.reduceEqDiff, if_true, if_false, e0_2, e0_1, e0_6, e0_7, encPV] <;> rfl) ?_
    refine pops_done (hR34 _ ?_)
    clear hR34 R34
    try simp only [thenK, scopeK]
    refine hN33 _ ?_
    clear hN33 N33
    refine pwp_cond (by simp only [St.eval, upd_at, Nat.reduceEqDiff, if_true, if_false, e0_2, e0_1, e0_6, e0_7, encPV] <;> rfl) (fun c59 => ?_) (fun c59 => ?_)
    ·skip
     rw [u8_94] at c59
     have hc94 : x.kase = true ∧ c = 94 := by simpa [and_comm] using c59
     refine pwp_then fun N36 hN36 => ?_
     refine pwp_then fun N37 hN37 => ?_
     refine pwp_reg fun R38 hR38 => ?_
     refine pops_mv (.inl rfl) rfl (by simp only [St.eval, upd_at, Nat.reduceEqDiff, if_true, if_false, e0_2, e0_1, e0_6, e0_7, encPV] <;> rfl) ?_
     refine pops_to rfl fun M hM => ?_
     simp only [pop, St.eval, constSlot, upd_at, Nat.reduceEqDiff, if_true, if_false, popBin, binK, intK, strK, eqK, eq_self, true_and, and_true, e0_2, e0_1, e0_6, e0_7, encPV, hw1]
     refine hM _ _ ?_
     clear hM M
     refine pops_mv (.inl rfl) rfl (by simp only [St.eval, upd_at, Nat.reduceEqDiff, if_true, if_false, e0_2, e0_1, e0_6, e0_7, encPV] <;> rfl) ?_
     refine pops_to rfl fun M hM => ?_
     simp only [pop, St.eval, constSlot, upd_at, Nat.reduceEqDiff, if_true, if_false, popCall, List.toList_toArray, List.map_cons, List.map_nil, popBuiltin, popLen, lenOfSlot, List.length_map, Tryd.underlying9, eq_self, true_and, and_true, str_list, str_size, str_app, str_cut, str_get, e0_2, e0_1, e0_6, e0_7, encPV]
     refine hM _ _ ?_
     clear hM M
     refine pops_to rfl fun M hM => ?_
     simp only [pop, St.eval, constSlot, upd_at, Nat.reduceEqDiff, if_true, if_false, popBin, binK, intK, strK, eqK, eq_self, true_and, and_true, e0_2, e0_1, e0_6, e0_7, encPV]
     refine hM _ _ ?_
     clear hM M
     refine pops_done (hR38 _ ?_)
     clear hR38 R38
     try simp only [thenK, scopeK]
     refine hN37 _ ?_
     clear hN37 N37
     refine pwp_cond (by simp only [St.eval, upd_at, Nat.reduceEqDiff, if_true, if_false, e0_2, e0_1, e0_6, e0_7, encPV] <;> rfl) (fun c70 => ?_) (fun c70 => ?_)
     ·skip
      have hlen2 : s.length ≤ i + 1 := by have := of_decide_eq_true c70; omega
      have hd0 := dec_cshort hx hc94.2 hc94.1 hlen2 hx0_1
      have hdn : decN x.kase s = ([], false) := by rw [decN, hd0]
      refine pwp_then fun N39 hN39 => ?_
      refine pwp_reg fun R40 hR40 => ?_
      refine pops_mv (.inr rfl) rfl (by simp only [St.eval, constSlot] <;> rfl) ?_
      refine pops_mv (.inr rfl) rfl (by simp only [St.eval, constSlot] <;> rfl) ?_
      refine pops_done (hR40 _ ?_)
      clear hR40 R40
      try simp only [thenK, scopeK]
      refine hN39 _ ?_
      clear hN39 N39
      refine pwp_ret ?_
      simp only [thenK, blockK, scopeK, bodyK]
      clear hN36 N36 hN11 N11 hN5 N5
      exact ⟨_, rfl, by rw [hdn]; exact endKeeps2 (hk0.trans (Same.keeps (Same.refl _))) rfl⟩
     ·skip
      have hlen2 : i + 1 < s.length := by have := of_decide_eq_false c70; omega
      obtain ⟨d, hd⟩ : ∃ d, s[i + 1]? = some d := ⟨_, List.getElem?_eq_getElem hlen2⟩
      refine pwp_skip ?_
      try simp only [thenK, scopeK]
      refine hN36 _ ?_
      clear hN36 N36
      refine pwp_then fun N41 hN41 => ?_
      refine pwp_reg fun R42 hR42 => ?_
      refine pops_mv (.inl rfl) rfl (by simp only [St.eval, upd_at, Nat.reduceEqDiff, if_true, if_false, e0_2, e0_1, e0_6, e0_7, encPV] <;> rfl) ?_
      refine pops_to rfl fun M hM => ?_
      simp only [pop, St.eval, constSlot, upd_at, Nat.reduceEqDiff, if_true, if_false, popBin, binK, intK, strK, eqK, eq_self, true_and, and_true, e0_2, e0_1, e0_6, e0_7, encPV, hw1]
      refine hM _ _ ?_
      clear hM M
      refine pops_mv (.inr rfl) rfl (by simp only [St.eval, upd_at, Nat.reduceEqDiff, if_true, if_false, e0_2, e0_1, e0_6, e0_7, encPV] <;> rfl) ?_
      refine pops_done (hR42 _ ?_)
      clear hR42 R42
      try simp only [thenK, scopeK]
      refine hN41 _ ?_
      clear hN41 N41
      refine pwp_then fun N43 hN43 => ?_
      refine pwp_reg fun R44 hR44 => ?_
      refine pops_mv (.inl rfl) rfl (by simp only [St.eval, upd_at, Nat.reduceEqDiff, if_true, if_false, e0_2, e0_1, e0_6, e0_7, encPV] <;> rfl) ?_
      refine pops_mv (.inl rfl) rfl (by simp only [St.eval, upd_at, Nat.reduceEqDiff, if_true, if_false, e0_2, e0_1, e0_6, e0_7, encPV] <;> rfl) ?_
      refine pops_to rfl fun M hM => ?_
      simp only [pop, St.eval, constSlot, upd_at, Nat.reduceEqDiff, if_true, if_false, popIndex, partK, Tryd.underlying9, eq_self, true_and, and_true, str_list, str_size, str_app, str_cut, str_get, e0_2, e0_1, e0_6, e0_7, encPV, hd, Int.toNat_natCast]
      refine ⟨Int.natCast_nonneg _, hM _ _ ?_⟩
      clear hM M
      refine pops_mv (.inr rfl) rfl (by simp only [St.eval, upd_at, Nat.reduceEqDiff, if_true, if_false, e0_2, e0_1, e0_6, e0_7, encPV] <;> rfl) ?_
      refine pops_done (hR44 _ ?_)
      clear hR44 R44
      try simp only [thenK, scopeK]
      refine hN43 _ ?_
      clear hN43 N43
      refine pwp_then fun N45 hN45 => ?_
      refine pwp_reg fun R46 hR46 => ?_
      refine pops_mv (.inl rfl) rfl (by simp only [St.eval, upd_at, Nat.reduceEqDiff, if_true, if_false, e0_2, e0_1, e0_6, e0_7, encPV] <;> rfl) ?_
      refine pops_to rfl fun M hM => ?_
      simp only [pop, St.eval, constSlot, upd_at, Nat.reduceEqDiff, if_true, if_false, popBin, binK, intK, strK, eqK, eq_self, true_and, and_true, e0_2, e0_1, e0_6, e0_7, encPV]
      refine hM _ _ ?_
      clear hM M
      refine pops_mv (.inl rfl) rfl (by simp only [St.eval, upd_at, Nat.reduceEqDiff, if_true, if_false, e0_2, e0_1, e0_6, e0_7, encPV] <;> rfl) ?_
      apply pops_and0 3 78 81 [79, 80] (by simp only [upd_at, Nat.reduceEqDiff, if_true, if_false, e0_2, e0_1, e0_6, e0_7, encPV] <;> rfl)
      ·skip
       intro g78_0 J47 hJ47
       simp only [List.take_succ_cons, List.take_zero]
       simp only [anyAt_cons, anyAt_nil] at hJ47
       refine pops_mvg (.inl rfl) rfl rfl (by simp only [upd_at, Nat.reduceEqDiff, if_true, if_false, e0_2, e0_1, e0_6, e0_7, encPV, g78_0]) (by simp only [St.eval, upd_at, Nat.reduceEqDiff, if_true, if_false, e0_2, e0_1, e0_6, e0_7, encPV, g78_0] <;> rfl) ?_
       refine pops_do rfl rfl (by simp only [upd_at, Nat.reduceEqDiff, if_true, if_false, e0_2, e0_1, e0_6, e0_7, encPV, g78_0]) fun M hM => ?_
       simp only [pop, St.eval, constSlot, upd_at, Nat.reduceEqDiff, if_true, if_false, popBin, binK, intK, strK, eqK, eq_self, true_and, and_true, e0_2, e0_1, e0_6, e0_7, encPV, g78_0]
       refine hM _ _ ?_
       clear hM M
       refine pops_to rfl fun M hM => ?_
       simp only [pop, St.eval, constSlot, upd_at, Nat.reduceEqDiff, if_true, if_false, popIf, true_implies, false_implies, Bool.true_eq_false, Bool.false_eq_true, reduceCtorEq, true_and, and_true, e0_2, e0_1, e0_6, e0_7, encPV, g78_0]
       refine hM _ _ ?_
       clear hM M
       exact pops_done (hJ47 _ (wk_same (wk_any ((wk_any (Wk.refl _ _))))))
      ·skip
       intro g78_0 J47 hJ47
       simp only [List.take_succ_cons, List.take_zero]
       simp only [anyAt_cons, anyAt_nil] at hJ47
       refine pops_off (b := false) rfl rfl (by simp only [upd_at, Nat.reduceEqDiff, if_true, if_false, e0_2, e0_1, e0_6, e0_7, encPV, g78_0]) (by decide) ?_
       refine pops_off (b := false) rfl rfl (by simp only [upd_at, Nat.reduceEqDiff, if_true, if_false, e0_2, e0_1, e0_6, e0_7, encPV, g78_0]) (by decide) ?_
       refine pops_to rfl fun M hM => ?_
       simp only [pop, St.eval, constSlot, upd_at, Nat.reduceEqDiff, if_true, if_false, popIf, true_implies, false_implies, Bool.true_eq_false, Bool.false_eq_true, reduceCtorEq, true_and, and_true, e0_2, e0_1, e0_6, e0_7, encPV, g78_0]
       refine hM _ _ ?_
       clear hM M
       exact pops_done (hJ47 _ (wk_same (wk_any ((wk_any (Wk.refl _ _))))))
      simp only [List.drop_succ_cons, List.drop_zero, anyAt_cons, anyAt_nil]
      refine pops_done (hR46 _ ?_)
      clear hR46 R46
      try simp only [thenK, scopeK]
      refine hN45 _ ?_
      clear hN45 N45
      refine pwp_cond (by simp only [St.eval, upd_at, Nat.reduceEqDiff, if_true, if_false, e0_2, e0_1, e0_6, e0_7, encPV] <;> rfl) (fun c81 => ?_) (fun c81 => ?_)
      ·skip
       have hup : 97 ≤ d.toNat ∧ d.toNat ≤ 122 := by simp at c81; omega
       have hu := upC_yes hup
       refine pwp_reg fun R48 hR48 => ?_
       refine pops_mv (.inl rfl) rfl (by simp only [St.eval, upd_at, Nat.reduceEqDiff, if_true, if_false, e0_2, e0_1, e0_6, e0_7, encPV] <;> rfl) ?_
       refine pops_mv (.inl rfl) rfl (by simp only [St.eval, upd_at, Nat.reduceEqDiff, if_true, if_false, e0_2, e0_1, e0_6, e0_7, encPV] <;> rfl) ?_
       refine pops_to rfl fun M hM => ?_
       simp only [pop, St.eval, constSlot, upd_at, Nat.reduceEqDiff, if_true, if_false, popBin, binK, intK, strK, eqK, eq_self, true_and, and_true, e0_2, e0_1, e0_6, e0_7, encPV]
       refine hM _ _ ?_
       clear hM M
       refine pops_to rfl fun M hM => ?_
       simp only [pop, St.eval, constSlot, upd_at, Nat.reduceEqDiff, if_true, if_false, popBin, binK, intK, strK, eqK, eq_self, true_and, and_true, e0_2, e0_1, e0_6, e0_7, encPV, hu.1]
       refine hM _ _ ?_
       clear hM M
       refine pops_to rfl fun M hM => ?_
       simp only [pop, St.eval, constSlot, upd_at, Nat.reduceEqDiff, if_true, if_false, popBuildSlice, slotCells, List.toList_toArray, List.map_cons, List.map_nil, List.mapM_cons, List.mapM_nil, Option.bind_eq_bind, Option.bind_some, Option.pure_def, Tryd.underlying73, sz5, ze5, by5, eq_self, true_and, and_true, str_list, str_size, str_app, str_cut, str_get, e0_2, e0_1, e0_6, e0_7, encPV]
       refine ⟨by decide, by decide, rfl, rfl, by simp, by decide, rfl, hM _ _ ?_⟩
       clear hM M
       refine pops_to rfl fun M hM => ?_
       simp only [pop, St.eval, constSlot, upd_at, Nat.reduceEqDiff, if_true, if_false, popCall, List.toList_toArray, List.map_cons, List.map_nil, popBuiltin, eq_self, true_and, and_true, str_list, str_size, str_app, str_cut, str_get, e0_2, e0_1, e0_6, e0_7, encPV]
       refine row_app (ys := ([upC d] : List UInt8).map byteCell) hb Tryd.underlying73 sz5 by5 ze5 rfl (by decide) (ho.same (Same.refl _)) (hk0.trans (Same.keeps (Same.refl _))) rfl (.inr rfl) ⟨by simp; omega, by simp; omega⟩ fun sl2 hp2 ho2 hk2 => hM _ _ ?_
       clear hM M
       refine pops_mv (.inr rfl) rfl (by simp only [St.eval, upd_at, Nat.reduceEqDiff, if_true, if_false, e0_2, e0_1, e0_6, e0_7, encPV] <;> rfl) ?_
       refine pops_done (hR48 _ ?_)
       clear hR48 R48
       try simp only [blockK, thenK, scopeK]
       try simp only [blockK, thenK, scopeK]
       try simp only [thenK, scopeK]
       refine hN11 _ ?_
       clear hN11 N11
       refine pwp_reg fun R49 hR49 => ?_
       refine pops_mv (.inl rfl) rfl (by simp only [St.eval, upd_at, Nat.reduceEqDiff, if_true, if_false, e0_2, e0_1, e0_6, e0_7, encPV] <;> rfl) ?_
       refine pops_to rfl fun M hM => ?_
       simp only [pop, St.eval, constSlot, upd_at, Nat.reduceEqDiff, if_true, if_false, popBin, binK, intK, strK, eqK, eq_self, true_and, and_true, e0_2, e0_1, e0_6, e0_7, encPV]
       refine hM _ _ ?_
       clear hM M
       refine pops_mv (.inr rfl) rfl (by simp only [St.eval, upd_at, Nat.reduceEqDiff, if_true, if_false, e0_2, e0_1, e0_6, e0_7, encPV] <;> rfl) ?_
       refine pops_done (hR49 _ ?_)
       clear hR49 R49
       try simp only [thenK, scopeK]
       exact ⟨_, by omega, _, .refl _ _, i + 2, sl2, out ++ [upC d], rfl, by omega, dec_case hx hc94.2 hc94.1 hd hx0_1, by simp; omega, ⟨hk2, by rw [List.map_append]; exact ho2⟩, by simp only [upd_at, Nat.reduceEqDiff, if_true, if_false, e0_2, e0_1, e0_6, e0_7, encPV], by simp only [upd_at, Nat.reduceEqDiff, if_true, if_false, e0_2, e0_1, e0_6, e0_7, encPV], by simp only [upd_at, Nat.reduceEqDiff, if_true, if_false, e0_2, e0_1, e0_6, e0_7, encPV], by simp only [upd_at, Nat.reduceEqDiff, if_true, if_false, e0_7, hw1, hw2, hw3, hw4]⟩
      ·skip
       have hup := upC_no (d := d) (by intro h; simp at c81; omega)
       refine pwp_reg fun R50 hR50 => ?_
       refine pops_mv (.inl rfl) rfl (by simp only [St.eval, upd_at, Nat.reduceEqDiff, if_true, if_false, e0_2, e0_1, e0_6, e0_7, encPV] <;> rfl) ?_
       refine pops_to rfl fun M hM => ?_
       simp only [pop, St.eval, constSlot, upd_at, Nat.reduceEqDiff, if_true, if_false, eq_self, true_and, and_true, str_list, str_size, str_app, str_cut, str_get, e0_2, e0_1, e0_6, e0_7, encPV]
       refine hM _ _ ?_
       clear hM M
       refine pops_to rfl fun M hM => ?_
       simp only [pop, St.eval, constSlot, upd_at, Nat.reduceEqDiff, if_true, if_false, popBuildSlice, slotCells, List.toList_toArray, List.map_cons, List.map_nil, List.mapM_cons, List.mapM_nil, Option.bind_eq_bind, Option.bind_some, Option.pure_def, Tryd.underlying73, sz5, ze5, by5, eq_self, true_and, and_true, str_list, str_size, str_app, str_cut, str_get, e0_2, e0_1, e0_6, e0_7, encPV]
       refine ⟨by decide, by decide, rfl, rfl, by simp, by decide, rfl, hM _ _ ?_⟩
       clear hM M
       refine pops_to rfl fun M hM => ?_
       simp only [pop, St.eval, constSlot, upd_at, Nat.reduceEqDiff, if_true, if_false, popCall, List.toList_toArray, List.map_cons, List.map_nil, popBuiltin, eq_self, true_and, and_true, str_list, str_size, str_app, str_cut, str_get, e0_2, e0_1, e0_6, e0_7, encPV]
       rw [show d = upC d from hup.symm]
       refine row_app (ys := ([upC d] : List UInt8).map byteCell) hb Tryd.underlying73 sz5 by5 ze5 rfl (by decide) (ho.same (Same.refl _)) (hk0.trans (Same.keeps (Same.refl _))) rfl (.inr rfl) ⟨by simp; omega, by simp; omega⟩ fun sl2 hp2 ho2 hk2 => hM _ _ ?_
       clear hM M
       refine pops_mv (.inr rfl) rfl (by simp only [St.eval, upd_at, Nat.reduceEqDiff, if_true, if_false, e0_2, e0_1, e0_6, e0_7, encPV] <;> rfl) ?_
       refine pops_done (hR50 _ ?_)
       clear hR50 R50
       try simp only [blockK, thenK, scopeK]
       try simp only [blockK, thenK, scopeK]
       try simp only [thenK, scopeK]
       refine hN11 _ ?_
       clear hN11 N11
       refine pwp_reg fun R51 hR51 => ?_
       refine pops_mv (.inl rfl) rfl (by simp only [St.eval, upd_at, Nat.reduceEqDiff, if_true, if_false, e0_2, e0_1, e0_6, e0_7, encPV] <;> rfl) ?_
       refine pops_to rfl fun M hM => ?_
       simp only [pop, St.eval, constSlot, upd_at, Nat.reduceEqDiff, if_true, if_false, popBin, binK, intK, strK, eqK, eq_self, true_and, and_true, e0_2, e0_1, e0_6, e0_7, encPV]
       refine hM _ _ ?_
       clear hM M
       refine pops_mv (.inr rfl) rfl (by simp only [St.eval, upd_at, Nat.reduceEqDiff, if_true, if_false, e0_2, e0_1, e0_6, e0_7, encPV] <;> rfl) ?_
       refine pops_done (hR51 _ ?_)
       clear hR51 R51
       try simp only [thenK, scopeK]
       exact ⟨_, by omega, _, .refl _ _, i + 2, sl2, out ++ [upC d], rfl, by omega, dec_case hx hc94.2 hc94.1 hd hx0_1, by simp; omega, ⟨hk2, by rw [List.map_append]; exact ho2⟩, by simp only [upd_at, Nat.reduceEqDiff, if_true, if_false, e0_2, e0_1, e0_6, e0_7, encPV], by simp only [upd_at, Nat.reduceEqDiff, if_true, if_false, e0_2, e0_1, e0_6, e0_7, encPV], by simp only [upd_at, Nat.reduceEqDiff, if_true, if_false, e0_2, e0_1, e0_6, e0_7, encPV], by simp only [upd_at, Nat.reduceEqDiff, if_true, if_false, e0_7, hw1, hw2, hw3, hw4]⟩
    ·skip
     rw [u8_94] at c59
     have hc94 : ¬ (x.kase = true ∧ c = 94) := by rintro ⟨h1, h2⟩; simp [h1, h2] at c59
     refine pwp_reg fun R52 hR52 => ?_
     refine pops_mv (.inl rfl) rfl (by simp only [St.eval, upd_at, Nat.reduceEqDiff, if_true, if_false, e0_2, e0_1, e0_6, e0_7, encPV] <;> rfl) ?_
     refine pops_mv (.inl rfl) rfl (by simp only [St.eval, upd_at, Nat.reduceEqDiff, if_true, if_false, e0_2, e0_1, e0_6, e0_7, encPV] <;> rfl) ?_
     refine pops_to rfl fun M hM => ?_
     simp only [pop, St.eval, constSlot, upd_at, Nat.reduceEqDiff, if_true, if_false, popBuildSlice, slotCells, List.toList_toArray, List.map_cons, List.map_nil, List.mapM_cons, List.mapM_nil, Option.bind_eq_bind, Option.bind_some, Option.pure_def, Tryd.underlying73, sz5, ze5, by5, eq_self, true_and, and_true, str_list, str_size, str_app, str_cut, str_get, e0_2, e0_1, e0_6, e0_7, encPV]
     refine ⟨by decide, by decide, rfl, rfl, by simp, by decide, rfl, hM _ _ ?_⟩
     clear hM M
     refine pops_to rfl fun M hM => ?_
     simp only [pop, St.eval, constSlot, upd_at, Nat.reduceEqDiff, if_true, if_false, popCall, List.toList_toArray, List.map_cons, List.map_nil, popBuiltin, eq_self, true_and, and_true, str_list, str_size, str_app, str_cut, str_get, e0_2, e0_1, e0_6, e0_7, encPV]
     refine row_app (ys := ([c] : List UInt8).map byteCell) hb Tryd.underlying73 sz5 by5 ze5 rfl (by decide) (ho.same (Same.refl _)) (hk0.trans (Same.keeps (Same.refl _))) rfl (.inr rfl) ⟨by simp; omega, by simp; omega⟩ fun sl2 hp2 ho2 hk2 => hM _ _ ?_
     clear hM M
     refine pops_mv (.inr rfl) rfl (by simp only [St.eval, upd_at, Nat.reduceEqDiff, if_true, if_false, e0_2, e0_1, e0_6, e0_7, encPV] <;> rfl) ?_
     refine pops_done (hR52 _ ?_)
     clear hR52 R52
     try simp only [blockK, thenK, scopeK]
     try simp only [blockK, thenK, scopeK]
     try simp only [thenK, scopeK]
     refine hN11 _ ?_
     clear hN11 N11
     refine pwp_reg fun R53 hR53 => ?_
     refine pops_mv (.inl rfl) rfl (by simp only [St.eval, upd_at, Nat.reduceEqDiff, if_true, if_false, e0_2, e0_1, e0_6, e0_7, encPV] <;> rfl) ?_
     refine pops_to rfl fun M hM => ?_
     simp only [pop, St.eval, constSlot, upd_at, Nat.reduceEqDiff, if_true, if_false, popBin, binK, intK, strK, eqK, eq_self, true_and, and_true, e0_2, e0_1, e0_6, e0_7, encPV]
     refine hM _ _ ?_
     clear hM M
     refine pops_mv (.inr rfl) rfl (by simp only [St.eval, upd_at, Nat.reduceEqDiff, if_true, if_false, e0_2, e0_1, e0_6, e0_7, encPV] <;> rfl) ?_
     refine pops_done (hR53 _ ?_)
     clear hR53 R53
     try simp only [thenK, scopeK]
     exact ⟨_, by omega, _, .refl _ _, i + 1, sl2, out ++ [c], rfl, by omega, dec_plain hx hc37 hc94 hx0_1, by simp; omega, ⟨hk2, by rw [List.map_append]; exact ho2⟩, by simp only [upd_at, Nat.reduceEqDiff, if_true, if_false, e0_2, e0_1, e0_6, e0_7, encPV], by simp only [upd_at, Nat.reduceEqDiff, if_true, if_false, e0_2, e0_1, e0_6, e0_7, encPV], by simp only [upd_at, Nat.reduceEqDiff, if_true, if_false, e0_2, e0_1, e0_6, e0_7, encPV], by simp only [upd_at, Nat.reduceEqDiff, if_true, if_false, e0_7, hw1, hw2, hw3, hw4]⟩
  ·skip
   have hi := of_decide_eq_false c15
   have hfin := dec_fin hi hx0_1
   refine pwp_exit ?_
   try simp only [thenK, blockK, scopeK, if_true, Nat.reduceEqDiff, if_false]
   clear hN8 N8
   try simp only [blockK, scopeK, if_true, Nat.reduceEqDiff, if_false, thenK]
   try simp only [thenK, scopeK]
   refine hN5 _ ?_
   clear hN5 N5
   refine pwp_then fun N54 hN54 => ?_
   refine pwp_reg fun R55 hR55 => ?_
   refine pops_mv (.inl rfl) rfl (by simp only [St.eval, upd_at, Nat.reduceEqDiff, if_true, if_false, e0_2, e0_1, e0_6, e0_7, encPV] <;> rfl) ?_
   refine pops_to rfl fun M hM => ?_
   simp only [pop, St.eval, constSlot, upd_at, Nat.reduceEqDiff, if_true, if_false, eq_self, true_and, and_true, str_list, str_size, str_app, str_cut, str_get, e0_2, e0_1, e0_6, e0_7, encPV]
   refine row_str Tryd.underlying9 Tryd.underlying73 Tryd.underlying5 (ho.same (Same.refl _)) (hM _ _ ?_)
   clear hM M
   refine pops_mv (.inr rfl) rfl (by simp only [St.eval, upd_at, Nat.reduceEqDiff, if_true, if_false, e0_2, e0_1, e0_6, e0_7, encPV] <;> rfl) ?_
   refine pops_mv (.inr rfl) rfl (by simp only [St.eval, constSlot] <;> rfl) ?_
   refine pops_done (hR55 _ ?_)
   clear hR55 R55
   try simp only [thenK, scopeK]
   refine hN54 _ ?_
   clear hN54 N54
   refine pwp_ret ?_
   simp only [thenK, blockK, scopeK, bodyK]
   exact ⟨_, rfl, by rw [decN, hfin]; exact endKeeps2 (hk0.trans (Same.keeps (Same.refl _))) rfl⟩
end Go.Pw
