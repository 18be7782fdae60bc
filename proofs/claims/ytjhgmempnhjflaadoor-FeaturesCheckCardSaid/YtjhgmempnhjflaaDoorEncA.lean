import Derived.Test.YtjhgmempnhjflaaDoorCleanP
namespace Go.Pw
open Go Go.RowKit Go.Proofs
set_option maxRecDepth 100000
set_option linter.unusedSimpArgs false
set_option linter.unusedVariables false
theorem sz49 : szOf Tryd.prog 49 = some 1 := by kernel_rfl
theorem bytesLess_lt : ∀ x y : List UInt8, Op.bytesLess x y = decide (x < y)
  | [], [] => by simp [Op.bytesLess]
  | _ :: _, [] => by simp [Op.bytesLess]
  | [], _ :: _ => by simp [Op.bytesLess]
  | a :: x, b :: y => by
    rw [Op.bytesLess, bytesLess_lt x y, Bool.eq_iff_iff]
    simp [List.cons_lt_cons_iff]
theorem ix_dec (s : List UInt8) (c : UInt8) : decide (Lib.indexByte s c ≥ 0) = s.contains c := by
  by_cases h : c ∈ s
  · have := indexByte_in h; simp [h]; omega
  · rw [indexByte_not h]; simp [h]
theorem letter_low (c : UInt8) : (decide (((lowC c).toNat : Int) ≥ 97) && decide (((lowC c).toNat : Int) ≤ 122)) = letterB c :=
  all_u8 (Q := fun c => (decide (((lowC c).toNat : Int) ≥ 97) && decide (((lowC c).toNat : Int) ≤ 122)) = letterB c) (by decide +kernel) c
theorem digit_low (c : UInt8) : (decide ((c.toNat : Int) ≥ 48) && decide ((c.toNat : Int) ≤ 57)) = digitB c :=
  all_u8 (Q := fun c => (decide ((c.toNat : Int) ≥ 48) && decide ((c.toNat : Int) ≤ 57)) = digitB c) (by decide +kernel) c
theorem alnum_low (c : UInt8) : ((decide ((c.toNat : Int) ≥ 48) && decide ((c.toNat : Int) ≤ 57) || decide ((c.toNat : Int) ≥ 97) && decide ((c.toNat : Int) ≤ 122)) || decide ((c.toNat : Int) ≥ 65) && decide ((c.toNat : Int) ≤ 90)) = (letterB c || digitB c) :=
  all_u8 (Q := fun c => ((decide ((c.toNat : Int) ≥ 48) && decide ((c.toNat : Int) ≤ 57) || decide ((c.toNat : Int) ≥ 97) && decide ((c.toNat : Int) ≤ 122)) || decide ((c.toNat : Int) ≥ 65) && decide ((c.toNat : Int) ≤ 90)) = (letterB c || digitB c)) (by decide +kernel) c
theorem u8_beq (c : UInt8) (n : Nat) (hn : n < 256) : ((c.toNat : Int) == (n : Int)) = (c == UInt8.ofNat n) := by
  rw [Bool.eq_iff_iff]
  simp only [beq_iff_eq]
  constructor
  · intro h
    have h2 : c.toNat = n := by omega
    rw [← h2]; simp
  · intro h
    subst h
    simp only [UInt8.toNat_ofNat']
    omega
theorem u8_37 (c : UInt8) : ((c.toNat : Int) == 37) = (c == 37) := u8_beq c 37 (by omega)
theorem u8_47 (c : UInt8) : ((c.toNat : Int) == 47) = (c == 47) := u8_beq c 47 (by omega)
theorem u8_94 (c : UInt8) : ((c.toNat : Int) == 94) = (c == 94) := u8_beq c 94 (by omega)
theorem bad_prog (t k : Bool) (c : UInt8) : (((((t || letterB c) || digitB c) || c == 37) || c == 47) || (k && c == 94)) = (t || badB k c) := by
  simp only [badB, Bool.or_assoc]
theorem bad_ref (t k : Bool) (c : UInt8) : ((((t || (letterB c || digitB c)) || c == 37) || c == 47) || (c == 94 && k)) = (t || badB k c) := by
  simp only [badB, Bool.or_assoc, Bool.and_comm]
theorem nodup_take (s : List UInt8) : s.Nodup ↔ ∀ (i : Nat) (c : UInt8), s[i]? = some c → c ∉ s.take i := by
  constructor
  · intro h i c hc hm
    obtain ⟨j, hj, e⟩ := List.mem_iff_getElem.1 hm
    have hj' : j < i := by simp at hj; omega
    have hi := (List.getElem?_eq_some_iff.1 hc)
    obtain ⟨hi, e2⟩ := hi
    rw [List.getElem_take] at e
    have := (List.nodup_iff_pairwise_ne.1 h)
    rw [List.pairwise_iff_getElem] at this
    exact this j i (by omega) hi hj' (by rw [e, e2])
  · intro h
    rw [List.nodup_iff_pairwise_ne, List.pairwise_iff_getElem]
    intro i j hi hj hij e
    refine h j s[j] (List.getElem?_eq_getElem hj) ?_
    rw [← e]
    exact List.mem_iff_getElem.2 ⟨i, by simp; omega, by simp⟩
theorem nodup_drop (s : List UInt8) : s.Nodup ↔ ∀ (i : Nat) (c : UInt8), s[i]? = some c → c ∉ s.drop (i + 1) := by
  constructor
  · intro h i c hc hm
    obtain ⟨hi, e2⟩ := List.getElem?_eq_some_iff.1 hc
    obtain ⟨j, hj, e⟩ := List.mem_iff_getElem.1 hm
    simp at hj e
    have := (List.nodup_iff_pairwise_ne.1 h)
    rw [List.pairwise_iff_getElem] at this
    exact this i (i + 1 + j) hi (by omega) (by omega) (by rw [e2, e])
  · intro h
    rw [List.nodup_iff_pairwise_ne, List.pairwise_iff_getElem]
    intro i j hi hj hij e
    refine h i s[i] (List.getElem?_eq_getElem hi) ?_
    rw [e]
    exact List.mem_iff_getElem.2 ⟨j - (i + 1), by simp; omega, by simp; congr 1; omega⟩
theorem formB_iff (k : Bool) (s : List UInt8) : formB k s = true ↔ s.Nodup ∧ ∀ c ∈ s, badB k c = false := by
  simp [formB]
theorem formB_bad {k : Bool} {s : List UInt8} {j : Nat} {c : UInt8} (hx : s[j]? = some c) (h : ((s.take j).contains c || badB k c) = true) : formB k s = false := by
  rw [Bool.eq_false_iff]
  intro hf
  rw [formB_iff] at hf
  have h1 := (nodup_take s).1 hf.1 j c hx
  have h2 := hf.2 c (List.mem_of_getElem? hx)
  simp [h1, h2] at h
theorem formB_bad2 {k : Bool} {s : List UInt8} {j : Nat} {c : UInt8} (hx : s[j]? = some c) (h : ((s.drop (j + 1)).contains c || badB k c) = true) : formB k s = false := by
  rw [Bool.eq_false_iff]
  intro hf
  rw [formB_iff] at hf
  have h1 := (nodup_drop s).1 hf.1 j c hx
  have h2 := hf.2 c (List.mem_of_getElem? hx)
  simp [h1, h2] at h
theorem formB_good {k : Bool} {s : List UInt8} (h : ∀ m < s.length, ∀ c, s[m]? = some c → ((s.take m).contains c || badB k c) = false) : formB k s = true := by
  rw [formB_iff]
  refine ⟨(nodup_take s).2 fun i c hc hm => ?_, fun c hc => ?_⟩
  · have := h i (List.getElem?_eq_some_iff.1 hc).1 c hc
    simp [hm] at this
  · obtain ⟨i, hi, e⟩ := List.mem_iff_getElem.1 hc
    have := h i hi c (by rw [List.getElem?_eq_getElem hi, e])
    simp at this; exact this.2
theorem formB_good2 {k : Bool} {s : List UInt8} (h : ∀ m < s.length, ∀ c, s[m]? = some c → ((s.drop (m + 1)).contains c || badB k c) = false) : formB k s = true := by
  rw [formB_iff]
  refine ⟨(nodup_drop s).2 fun i c hc hm => ?_, fun c hc => ?_⟩
  · have := h i (List.getElem?_eq_some_iff.1 hc).1 c hc
    simp [hm] at this
  · obtain ⟨i, hi, e⟩ := List.mem_iff_getElem.1 hc
    have := h i hi c (by rw [List.getElem?_eq_getElem hi, e])
    simp at this; exact this.2
theorem pre_step {Q : Nat → UInt8 → Prop} {s : List UInt8} {j : Nat} {c : UInt8} (hx : s[j]? = some c) (h : ∀ m < j, ∀ c, s[m]? = some c → Q m c) (hq : Q j c) : ∀ m < j + 1, ∀ c, s[m]? = some c → Q m c := by
  intro m hm d hd
  by_cases e : m = j
  · subst e; rw [hx] at hd; obtain rfl := Option.some.inj hd; exact hq
  · exact h m (by omega) d hd
theorem all_step {f : List UInt8 → Bool} {l : List (List UInt8)} {i : Nat} {s : List UInt8} (hx : l[i]? = some s) (h : ∀ y ∈ l.take i, f y = true) (hs : f s = true) : ∀ y ∈ l.take (i + 1), f y = true := by
  rw [List.take_add_one, hx]
  simp only [Option.toList_some, List.mem_append, List.mem_singleton]
  rintro y (hy | rfl)
  · exact h y hy
  · exact hs
theorem enc6 {x : Enc} {i : Nat} {s : List UInt8} (hx : [x.forbid, x.head, x.tail][i]? = some s) (h : formB x.kase s = false) : encCheckR x = 6 := by
  unfold encCheckR
  rw [if_neg]
  intro ha
  rw [List.all_eq_true] at ha
  rw [ha s (List.mem_of_getElem? hx)] at h
  cases h
theorem enc_ok6 {x : Enc} {i : Nat} (hi : ¬ (i : Int) < ([x.forbid, x.head, x.tail].length : Nat)) (h : ∀ y ∈ [x.forbid, x.head, x.tail].take i, formB x.kase y = true) :
    encCheckR x = (if namesE none x.names ≠ 0 then namesE none x.names else if x.maxName < 3 ∨ 255 < x.maxName then 7 else 0) := by
  unfold encCheckR
  rw [if_pos]
  rw [List.all_eq_true]
  rw [List.take_of_length_le (by simp at hi ⊢; omega)] at h
  exact h
def prevAt (l : List (List UInt8)) (i : Nat) : Option (List UInt8) := if i = 0 then none else l[i - 1]?
theorem prevAt_succ {l : List (List UInt8)} {i : Nat} {x : List UInt8} (h : l[i]? = some x) : prevAt l (i + 1) = some x := by
  rw [prevAt, if_neg (by omega)]; simpa using h
def nameBad (n : List UInt8) : Bool := (!isNameB n || lowL n != n) || n.any [37, 94].contains
theorem nameBad_iff (n : List UInt8) : nameBad n = true ↔ (isNameB n = false ∨ lowL n ≠ n ∨ n.any [37, 94].contains = true) := by
  simp [nameBad, or_assoc]
theorem namesE_bad {l : List (List UInt8)} {i : Nat} {n : List UInt8} {p : Option (List UInt8)} {r : Int} (h : l[i]? = some n) (hb : nameBad n = true) (hi : namesE p (l.drop i) = r) : r = 2 := by
  rw [drop_cons h, namesE, if_pos ((nameBad_iff n).1 hb)] at hi; exact hi.symm
theorem namesE_order {l : List (List UInt8)} {i : Nat} {n q : List UInt8} {r : Int} (h : l[i]? = some n) (hb : nameBad n = false) (h0 : 0 < i) (hq : l[i - 1]? = some q) (ho : Op.bytesLess q n = false) (hi : namesE (prevAt l i) (l.drop i) = r) : r = 10 := by
  rw [drop_cons h, namesE, if_neg (by rw [← nameBad_iff, hb]; simp), if_pos (by rw [prevAt, if_neg (by omega), hq]; simp [ho])] at hi; exact hi.symm
theorem namesE_step {l : List (List UInt8)} {i : Nat} {n : List UInt8} {r : Int} (h : l[i]? = some n) (hb : nameBad n = false) (ho : ∀ q, 0 < i → l[i - 1]? = some q → Op.bytesLess q n = true) (hi : namesE (prevAt l i) (l.drop i) = r) : namesE (prevAt l (i + 1)) (l.drop (i + 1)) = r := by
  rw [drop_cons h, namesE, if_neg (by rw [← nameBad_iff, hb]; simp), if_neg] at hi
  · rw [prevAt_succ h]; exact hi
  · rw [prevAt]
    split
    · simp
    · rename_i h0
      cases hq : l[i - 1]? with
      | none => simp
      | some q => simp [ho q (by omega) hq]
theorem namesE_end {l : List (List UInt8)} {i : Nat} {p : Option (List UInt8)} {r : Int} (h : ¬ (i : Int) < (l.length : Nat)) (hi : namesE p (l.drop i) = r) : r = 0 := by
  rw [List.drop_eq_nil_of_le (by omega), namesE] at hi; exact hi.symm
theorem leq_not (n q : List UInt8) : (Op.bytesLess n q || n == q) = !Op.bytesLess q n := by
  rw [bytesLess_lt, bytesLess_lt, Bool.eq_iff_iff]
  simp only [Bool.or_eq_true, decide_eq_true_eq, beq_iff_eq, Bool.not_eq_true', decide_eq_false_iff_not]
  constructor
  · rintro (h | h)
    · exact List.lt_asymm h
    · subst h; exact List.lt_irrefl _
  · intro h
    rcases List.le_iff_lt_or_eq.1 (List.not_lt.1 h) with h | h
    · exact .inl h
    · exact .inr h
theorem range7 (z : Int) : (decide (z < 3) || decide (z > 255)) = decide (z < 3 ∨ 255 < z) := by simp
theorem nameB_len {n : List UInt8} (h : (!isNameB n) = false) : n.length ≤ 255 := by
  have : isNameB n = true := by simpa using h
  exact (isNameB_iff.1 this).2.1
theorem nameB_len2 {n : List UInt8} {b : Bool} (h : (!isNameB n || b) = false) : n.length ≤ 255 := by
  simp only [Bool.or_eq_false_iff] at h
  exact nameB_len h.1
theorem getD_at {l : List (List UInt8)} {j : Nat} (h : j < l.length) : l[j]? = some (l.getD j []) := by
  simp [List.getD_eq_getElem?_getD, h]
theorem ord_t {l : List (List UInt8)} {i : Nat} {n : List UInt8} (c : (decide ((i : Int) > 0) && !Op.bytesLess (l.getD (i - 1) []) n) = true) : 0 < i ∧ Op.bytesLess (l.getD (i - 1) []) n = false := by
  simp only [Bool.and_eq_true, decide_eq_true_eq, Bool.not_eq_true'] at c
  exact ⟨by omega, c.2⟩
theorem ord_f {l : List (List UInt8)} {i : Nat} {n : List UInt8} (c : (decide ((i : Int) > 0) && !Op.bytesLess (l.getD (i - 1) []) n) = false) : ∀ q, 0 < i → l[i - 1]? = some q → Op.bytesLess q n = true := by
  intro q h0 hq
  rw [getD_at (List.getElem?_eq_some_iff.1 hq).1] at hq
  obtain rfl := Option.some.inj hq
  simp only [Bool.and_eq_false_iff, decide_eq_false_iff_not, Bool.not_eq_false'] at c
  rcases c with c | c
  · omega
  · exact c
theorem nm83 : (Tryd.f83.name == "runtime.NumGoroutine") = false := by kernel_rfl
theorem hasByte_fun (W0 : World) (s : List UInt8) (c : UInt8) :
  PFun Tryd.prog W0 83 [.one (pstr s), .one (.val (.int .u8 c.toNat))] (.sv (.one (pbool (s.contains c)))) := by
 intro h
 refine pcalls2 (n := 9) Tryd.func83 rfl nm83 rfl fun hb => ?_
 refine pwp_then fun N1 hN1 => ?_
 refine pwp_reg fun R2 hR2 => ?_
 refine pops_mv (.inr rfl) rfl (by simp only [St.eval, constSlot] <;> rfl) ?_
 refine pops_done (hR2 _ ?_)
 clear hR2 R2
 try simp only [thenK, scopeK]
 refine hN1 _ ?_
 clear hN1 N1
 refine pwp_then fun N3 hN3 => ?_
 refine pwp_reg fun R4 hR4 => ?_
 refine pops_mv (.inl rfl) rfl (by simp only [St.eval, upd_at, Nat.reduceEqDiff, if_true, if_false] <;> rfl) ?_
 refine pops_mv (.inl rfl) rfl (by simp only [St.eval, upd_at, Nat.reduceEqDiff, if_true, if_false] <;> rfl) ?_
 refine pops_to rfl fun M hM => ?_
 simp only [pop, St.eval, constSlot, upd_at, Nat.reduceEqDiff, if_true, if_false, popCall, List.toList_toArray, List.map_cons, List.map_nil, svs, List.mapM_cons, List.mapM_nil, Option.bind_eq_bind, Option.bind_some, Option.pure_def, List.append_nil, List.cons_append, List.nil_append, str_size]
 refine PFun.use (indexByte_fun W0 s c) fun h1 s1 => hM _ _ ?_
 replace s1 := Same.trans (Same.refl _) s1
 clear hM M
 refine pops_to rfl fun M hM => ?_
 simp only [pop, St.eval, constSlot, upd_at, Nat.reduceEqDiff, if_true, if_false, popBin, binK, intK, strK, eqK, eq_self, true_and, and_true]
 refine hM _ _ ?_
 clear hM M
 refine pops_mv (.inr rfl) rfl (by simp only [St.eval, upd_at, Nat.reduceEqDiff, if_true, if_false] <;> rfl) ?_
 refine pops_done (hR4 _ ?_)
 clear hR4 R4
 try simp only [thenK, scopeK]
 refine hN3 _ ?_
 clear hN3 N3
 refine pwp_ret ?_
 simp only [thenK, blockK, scopeK, bodyK]
 refine ⟨_, rfl, endFun s1 ?_⟩
 try simp only [upd_at, Nat.reduceEqDiff, if_true, if_false]
 all_goals
  rw [ix_dec]

theorem nm84 : (Tryd.f84.name == "runtime.NumGoroutine") = false := by kernel_rfl
theorem letter_fun (W0 : World) (c : UInt8) :
  PFun Tryd.prog W0 84 [.one (.val (.int .u8 c.toNat))] (.sv (.one (pbool (letterB c)))) := by
 intro h
 refine pcalls1 (n := 11) Tryd.func84 rfl nm84 rfl fun hb => ?_
 refine pwp_then fun N1 hN1 => ?_
 refine pwp_reg fun R2 hR2 => ?_
 refine pops_mv (.inr rfl) rfl (by simp only [St.eval, constSlot] <;> rfl) ?_
 refine pops_done (hR2 _ ?_)
 clear hR2 R2
 try simp only [thenK, scopeK]
 refine hN1 _ ?_
 clear hN1 N1
 refine pwp_then fun N3 hN3 => ?_
 refine pwp_reg fun R4 hR4 => ?_
 refine pops_mv (.inl rfl) rfl (by simp only [St.eval, upd_at, Nat.reduceEqDiff, if_true, if_false] <;> rfl) ?_
 refine pops_to rfl fun M hM => ?_
 simp only [pop, St.eval, constSlot, upd_at, Nat.reduceEqDiff, if_true, if_false, popCall, List.toList_toArray, List.map_cons, List.map_nil, svs, List.mapM_cons, List.mapM_nil, Option.bind_eq_bind, Option.bind_some, Option.pure_def, List.append_nil, List.cons_append, List.nil_append, str_size]
 refine PFun.use (small_fun W0 c) fun h1 s1 => hM _ _ ?_
 replace s1 := Same.trans (Same.refl _) s1
 clear hM M
 refine pops_to rfl fun M hM => ?_
 simp only [pop, St.eval, constSlot, upd_at, Nat.reduceEqDiff, if_true, if_false, popBin, binK, intK, strK, eqK, eq_self, true_and, and_true]
 refine hM _ _ ?_
 clear hM M
 refine pops_mv (.inl rfl) rfl (by simp only [St.eval, upd_at, Nat.reduceEqDiff, if_true, if_false] <;> rfl) ?_
 apply pops_and 4 6 10 [7, 8, 9] (by simp only [upd_at, Nat.reduceEqDiff, if_true, if_false] <;> rfl)
 ·skip
  intro g6_0 J5 hJ5
  simp only [List.take_succ_cons, List.take_zero]
  simp only [anyAt_cons, anyAt_nil] at hJ5
  refine pops_mvg (.inl rfl) rfl rfl (by simp only [upd_at, Nat.reduceEqDiff, if_true, if_false, g6_0]) (by simp only [St.eval, upd_at, Nat.reduceEqDiff, if_true, if_false, g6_0] <;> rfl) ?_
  refine pops_do rfl rfl (by simp only [upd_at, Nat.reduceEqDiff, if_true, if_false, g6_0]) fun M hM => ?_
  simp only [pop, St.eval, constSlot, upd_at, Nat.reduceEqDiff, if_true, if_false, popCall, List.toList_toArray, List.map_cons, List.map_nil, svs, List.mapM_cons, List.mapM_nil, Option.bind_eq_bind, Option.bind_some, Option.pure_def, List.append_nil, List.cons_append, List.nil_append, str_size, g6_0]
  refine PFun.use (small_fun W0 c) fun h2 s2 => hM _ _ ?_
  replace s2 := Same.trans (Same.refl _) s2
  clear hM M
  refine pops_do rfl rfl (by simp only [upd_at, Nat.reduceEqDiff, if_true, if_false, g6_0]) fun M hM => ?_
  simp only [pop, St.eval, constSlot, upd_at, Nat.reduceEqDiff, if_true, if_false, popBin, binK, intK, strK, eqK, eq_self, true_and, and_true, g6_0]
  refine hM _ _ ?_
  clear hM M
  refine pops_to rfl fun M hM => ?_
  simp only [pop, St.eval, constSlot, upd_at, Nat.reduceEqDiff, if_true, if_false, popIf, true_implies, false_implies, Bool.true_eq_false, Bool.false_eq_true, reduceCtorEq, true_and, and_true, g6_0]
  refine hM _ _ ?_
  clear hM M
  exact pops_done (hJ5 _ _ s2 (wk_same (wk_any ((wk_any ((wk_any (Wk.refl _ _))))))))
 ·skip
  intro g6_0 J5 hJ5
  simp only [List.take_succ_cons, List.take_zero]
  simp only [anyAt_cons, anyAt_nil] at hJ5
  refine pops_off (b := false) rfl rfl (by simp only [upd_at, Nat.reduceEqDiff, if_true, if_false, g6_0]) (by decide) ?_
  refine pops_off (b := false) rfl rfl (by simp only [upd_at, Nat.reduceEqDiff, if_true, if_false, g6_0]) (by decide) ?_
  refine pops_off (b := false) rfl rfl (by simp only [upd_at, Nat.reduceEqDiff, if_true, if_false, g6_0]) (by decide) ?_
  refine pops_to rfl fun M hM => ?_
  simp only [pop, St.eval, constSlot, upd_at, Nat.reduceEqDiff, if_true, if_false, popIf, true_implies, false_implies, Bool.true_eq_false, Bool.false_eq_true, reduceCtorEq, true_and, and_true, g6_0]
  refine hM _ _ ?_
  clear hM M
  exact pops_done (hJ5 _ _ (Same.refl _) (wk_same (wk_any ((wk_any ((wk_any (Wk.refl _ _))))))))
 simp only [List.drop_succ_cons, List.drop_zero, anyAt_cons, anyAt_nil]
 intro hj5 sj5
 replace sj5 := Same.trans s1 sj5
 refine pops_mv (.inr rfl) rfl (by simp only [St.eval, upd_at, Nat.reduceEqDiff, if_true, if_false] <;> rfl) ?_
 refine pops_done (hR4 _ ?_)
 clear hR4 R4
 try simp only [thenK, scopeK]
 refine hN3 _ ?_
 clear hN3 N3
 refine pwp_ret ?_
 simp only [thenK, blockK, scopeK, bodyK]
 refine ⟨_, rfl, endFun sj5 ?_⟩
 try simp only [upd_at, Nat.reduceEqDiff, if_true, if_false]
 all_goals
  rw [letter_low]

theorem nm85 : (Tryd.f85.name == "runtime.NumGoroutine") = false := by kernel_rfl
theorem digit_fun (W0 : World) (c : UInt8) :
  PFun Tryd.prog W0 85 [.one (.val (.int .u8 c.toNat))] (.sv (.one (pbool (digitB c)))) := by
 intro h
 refine pcalls1 (n := 9) Tryd.func85 rfl nm85 rfl fun hb => ?_
 refine pwp_then fun N1 hN1 => ?_
 refine pwp_reg fun R2 hR2 => ?_
 refine pops_mv (.inr rfl) rfl (by simp only [St.eval, constSlot] <;> rfl) ?_
 refine pops_done (hR2 _ ?_)
 clear hR2 R2
 try simp only [thenK, scopeK]
 refine hN1 _ ?_
 clear hN1 N1
 refine pwp_then fun N3 hN3 => ?_
 refine pwp_reg fun R4 hR4 => ?_
 refine pops_mv (.inl rfl) rfl (by simp only [St.eval, upd_at, Nat.reduceEqDiff, if_true, if_false] <;> rfl) ?_
 refine pops_to rfl fun M hM => ?_
 simp only [pop, St.eval, constSlot, upd_at, Nat.reduceEqDiff, if_true, if_false, popBin, binK, intK, strK, eqK, eq_self, true_and, and_true]
 refine hM _ _ ?_
 clear hM M
 refine pops_mv (.inl rfl) rfl (by simp only [St.eval, upd_at, Nat.reduceEqDiff, if_true, if_false] <;> rfl) ?_
 apply pops_and0 3 5 8 [6, 7] (by simp only [upd_at, Nat.reduceEqDiff, if_true, if_false] <;> rfl)
 ·skip
  intro g5_0 J5 hJ5
  simp only [List.take_succ_cons, List.take_zero]
  simp only [anyAt_cons, anyAt_nil] at hJ5
  refine pops_mvg (.inl rfl) rfl rfl (by simp only [upd_at, Nat.reduceEqDiff, if_true, if_false, g5_0]) (by simp only [St.eval, upd_at, Nat.reduceEqDiff, if_true, if_false, g5_0] <;> rfl) ?_
  refine pops_do rfl rfl (by simp only [upd_at, Nat.reduceEqDiff, if_true, if_false, g5_0]) fun M hM => ?_
  simp only [pop, St.eval, constSlot, upd_at, Nat.reduceEqDiff, if_true, if_false, popBin, binK, intK, strK, eqK, eq_self, true_and, and_true, g5_0]
  refine hM _ _ ?_
  clear hM M
  refine pops_to rfl fun M hM => ?_
  simp only [pop, St.eval, constSlot, upd_at, Nat.reduceEqDiff, if_true, if_false, popIf, true_implies, false_implies, Bool.true_eq_false, Bool.false_eq_true, reduceCtorEq, true_and, and_true, g5_0]
  refine hM _ _ ?_
  clear hM M
  exact pops_done (hJ5 _ (wk_same (wk_any ((wk_any (Wk.refl _ _))))))
 ·skip
  intro g5_0 J5 hJ5
  simp only [List.take_succ_cons, List.take_zero]
  simp only [anyAt_cons, anyAt_nil] at hJ5
  refine pops_off (b := false) rfl rfl (by simp only [upd_at, Nat.reduceEqDiff, if_true, if_false, g5_0]) (by decide) ?_
  refine pops_off (b := false) rfl rfl (by simp only [upd_at, Nat.reduceEqDiff, if_true, if_false, g5_0]) (by decide) ?_
  refine pops_to rfl fun M hM => ?_
  simp only [pop, St.eval, constSlot, upd_at, Nat.reduceEqDiff, if_true, if_false, popIf, true_implies, false_implies, Bool.true_eq_false, Bool.false_eq_true, reduceCtorEq, true_and, and_true, g5_0]
  refine hM _ _ ?_
  clear hM M
  exact pops_done (hJ5 _ (wk_same (wk_any ((wk_any (Wk.refl _ _))))))
 simp only [List.drop_succ_cons, List.drop_zero, anyAt_cons, anyAt_nil]
 refine pops_mv (.inr rfl) rfl (by simp only [St.eval, upd_at, Nat.reduceEqDiff, if_true, if_false] <;> rfl) ?_
 refine pops_done (hR4 _ ?_)
 clear hR4 R4
 try simp only [thenK, scopeK]
 refine hN3 _ ?_
 clear hN3 N3
 refine pwp_ret ?_
 simp only [thenK, blockK, scopeK, bodyK]
 refine ⟨_, rfl, endFun (Same.refl _) ?_⟩
 try simp only [upd_at, Nat.reduceEqDiff, if_true, if_false]
 all_goals
  rw [digit_low]

theorem nm46 : (Tryd.f46.name == "runtime.NumGoroutine") = false := by kernel_rfl
theorem checkEnc_fun (W0 : World) (x : Enc) (hf : ∀ y ∈ [x.forbid, x.head, x.tail], y.length ≤ 9223372036854775807) (hnl : x.names.length ≤ 9223372036854775807) :
  PFun Tryd.prog W0 46 [.agg (encPV x)] (.sv (.one (pint (encCheckR x)))) := by
 intro h
 have hL3 : [x.forbid, x.head, x.tail].length = 3 := rfl
 refine pcalls1 (n := 102) Tryd.func46 rfl nm46 rfl fun hb => ?_
 refine pwp_then fun N1 hN1 => ?_
 refine pwp_reg fun R2 hR2 => ?_
 refine pops_to rfl fun M hM => ?_
 simp only [pop, St.eval, constSlot, upd_at, Nat.reduceEqDiff, if_true, if_false, popBox, popBoxRo, slotCells, encPV]
 refine .inr ⟨Nat.succ_pos _, hM _ _ ?_⟩
 clear hM M
 refine pops_mv (.inr rfl) rfl (by simp only [St.eval, constSlot] <;> rfl) ?_
 refine pops_done (hR2 _ ?_)
 clear hR2 R2
 try simp only [thenK, scopeK]
 refine hN1 _ ?_
 clear hN1 N1
 refine pwp_then fun N3 hN3 => ?_
 refine pwp_then fun N4 hN4 => ?_
 refine pwp_reg fun R5 hR5 => ?_
 refine pops_to rfl fun M hM => ?_
 simp only [pop, St.eval, constSlot, upd_at, Nat.reduceEqDiff, if_true, if_false, popFieldAddr, fieldOf, List.drop_succ_cons, List.drop_zero, List.getElem?_toArray, List.getElem?_cons_zero, List.getElem?_cons_succ, Tryd.underlying64, sz9, encPV]
 refine ⟨⟨_, rfl⟩, hM _ _ ?_⟩
 clear hM M
 refine pops_to rfl fun M hM => ?_
 simp only [pop, St.eval, constSlot, upd_at, Nat.reduceEqDiff, if_true, if_false, popLoad, loadK, isAggD, List.drop_zero, List.getElem?_toArray, List.getElem?_cons_zero, List.getElem?_cons_succ, Bool.false_eq_true, Tryd.underlying9, sz9, eq_self, true_and, and_true, encPV]
 refine hM _ _ ?_
 clear hM M
 refine pops_to rfl fun M hM => ?_
 simp only [pop, St.eval, constSlot, upd_at, Nat.reduceEqDiff, if_true, if_false, popFieldAddr, fieldOf, List.drop_succ_cons, List.drop_zero, List.getElem?_toArray, List.getElem?_cons_zero, List.getElem?_cons_succ, Tryd.underlying64, sz9, encPV]
 refine ⟨⟨_, rfl⟩, hM _ _ ?_⟩
 clear hM M
 refine pops_to rfl fun M hM => ?_
 simp only [pop, St.eval, constSlot, upd_at, Nat.reduceEqDiff, if_true, if_false, popLoad, loadK, isAggD, List.drop_zero, List.getElem?_toArray, List.getElem?_cons_zero, List.getElem?_cons_succ, Bool.false_eq_true, Tryd.underlying9, sz9, eq_self, true_and, and_true, encPV]
 refine hM _ _ ?_
 clear hM M
 refine pops_to rfl fun M hM => ?_
 simp only [pop, St.eval, constSlot, upd_at, Nat.reduceEqDiff, if_true, if_false, popFieldAddr, fieldOf, List.drop_succ_cons, List.drop_zero, List.getElem?_toArray, List.getElem?_cons_zero, List.getElem?_cons_succ, Tryd.underlying64, sz9, encPV]
 refine ⟨⟨_, rfl⟩, hM _ _ ?_⟩
 clear hM M
 refine pops_to rfl fun M hM => ?_
 simp only [pop, St.eval, constSlot, upd_at, Nat.reduceEqDiff, if_true, if_false, popLoad, loadK, isAggD, List.drop_zero, List.getElem?_toArray, List.getElem?_cons_zero, List.getElem?_cons_succ, Bool.false_eq_true, Tryd.underlying9, sz9, eq_self, true_and, and_true, encPV]
 refine hM _ _ ?_
 clear hM M
 refine pops_to rfl fun M hM => ?_
 simp only [pop, St.eval, constSlot, upd_at, Nat.reduceEqDiff, if_true, if_false, popBuildSlice, slotCells, List.toList_toArray, List.map_cons, List.map_nil, List.mapM_cons, List.mapM_nil, Option.bind_eq_bind, Option.bind_some, Option.pure_def, Tryd.underlying49, sz9, ze9, by9, eq_self, true_and, and_true, str_list, str_size, str_app, str_cut, str_get, encPV]
 refine ⟨by decide, by decide, rfl, rfl, by simp, by decide, rfl, hM _ _ ?_⟩
 clear hM M
 refine pops_to rfl fun M hM => ?_
 simp only [pop, St.eval, constSlot, upd_at, Nat.reduceEqDiff, if_true, if_false, popCall, List.toList_toArray, List.map_cons, List.map_nil, popBuiltin, popLen, lenOfSlot, List.length_map, Tryd.underlying49, eq_self, true_and, and_true, str_list, str_size, str_app, str_cut, str_get, encPV]
 refine hM _ _ ?_
 clear hM M
 refine pops_mv (.inl rfl) rfl (by simp only [St.eval, constSlot] <;> rfl) ?_
 refine pops_done (hR5 _ ?_)
 clear hR5 R5
 try simp only [thenK, scopeK]
 refine hN4 _ ?_
 clear hN4 N4
 refine pwp_block ?_
 refine pwp_loop (fun k σ => ∃ (i : Nat), (k = [x.forbid, x.head, x.tail].length - i) ∧ (i ≤ [x.forbid, x.head, x.tail].length) ∧ (∀ y ∈ [x.forbid, x.head, x.tail].take i, formB x.kase y = true) ∧ (Same h σ.hp) ∧ (σ.env 1 = .sv (.one (.rop (encPV x)))) ∧ (σ.env 15 = .sv (.one (.ro true 1 (pstrs [x.forbid, x.head, x.tail])))) ∧ (σ.env 16 = .sv (.one (pint ([x.forbid, x.head, x.tail].length : Nat)))) ∧ (σ.env 17 = .sv (.one (pint (i : Nat))))) _ ⟨_, .refl _ _, 0, rfl, ?_⟩ ?_
 · exact ⟨Nat.zero_le _, by simp, (Same.refl _), by simp only [upd_at, Nat.reduceEqDiff, if_true, if_false, encPV], by simp only [upd_at, Nat.reduceEqDiff, if_true, if_false]; rfl, by simp only [upd_at, Nat.reduceEqDiff, if_true, if_false]; rfl, by simp only [upd_at, Nat.reduceEqDiff, if_true, if_false]; rfl⟩
 ·rintro k ⟨e, hp0⟩ ⟨i, hk0, hx0_0, hx0_1, sl0, e0_1, e0_15, e0_16, e0_17⟩
  simp only at sl0 e0_1 e0_15 e0_16 e0_17
  refine pwp_then fun N6 hN6 => ?_
  refine pwp_reg fun R7 hR7 => ?_
  refine pops_to rfl fun M hM => ?_
  simp only [pop, St.eval, constSlot, upd_at, Nat.reduceEqDiff, if_true, if_false, popBin, binK, intK, strK, eqK, eq_self, true_and, and_true, e0_1, e0_15, e0_16, e0_17, encPV]
  refine hM _ _ ?_
  clear hM M
  refine pops_done (hR7 _ ?_)
  clear hR7 R7
  try simp only [thenK, scopeK]
  refine hN6 _ ?_
  clear hN6 N6
  refine pwp_then fun N8 hN8 => ?_
  refine pwp_cond (by simp only [St.eval, upd_at, Nat.reduceEqDiff, if_true, if_false, e0_1, e0_15, e0_16, e0_17, encPV] <;> rfl) (fun c18 => ?_) (fun c18 => ?_)
  ·skip
   have hi : i < [x.forbid, x.head, x.tail].length := by have := of_decide_eq_true c18; omega
   obtain ⟨s, hs⟩ : ∃ s, [x.forbid, x.head, x.tail][i]? = some s := ⟨_, List.getElem?_eq_getElem hi⟩
   have hget : (pstrs [x.forbid, x.head, x.tail])[i]? = some [pstr s] := by simp only [List.getElem?_map, hs, Option.map_some]
   have hsl := hf s (List.mem_of_getElem? hs)
   refine pwp_skip ?_
   try simp only [thenK, scopeK]
   refine hN8 _ ?_
   clear hN8 N8
   refine pwp_then fun N9 hN9 => ?_
   refine pwp_block ?_
   refine pwp_then fun N10 hN10 => ?_
   refine pwp_reg fun R11 hR11 => ?_
   refine pops_to rfl fun M hM => ?_
   simp only [pop, St.eval, constSlot, upd_at, Nat.reduceEqDiff, if_true, if_false, popIndexAddr, Tryd.underlying49, sz9, eq_self, true_and, and_true, str_list, str_size, str_app, str_cut, str_get, e0_1, e0_15, e0_16, e0_17, encPV, hget, Int.toNat_natCast]
   refine ⟨Int.natCast_nonneg _, hM _ _ ?_⟩
   clear hM M
   refine pops_to rfl fun M hM => ?_
   simp only [pop, St.eval, constSlot, upd_at, Nat.reduceEqDiff, if_true, if_false, popLoad, loadK, isAggD, List.drop_zero, List.getElem?_toArray, List.getElem?_cons_zero, List.getElem?_cons_succ, Bool.false_eq_true, Tryd.underlying9, sz9, eq_self, true_and, and_true, e0_1, e0_15, e0_16, e0_17, encPV, hget, Int.toNat_natCast]
   refine hM _ _ ?_
   clear hM M
   refine pops_mv (.inr rfl) rfl (by simp only [St.eval, upd_at, Nat.reduceEqDiff, if_true, if_false, e0_1, e0_15, e0_16, e0_17, encPV, hget, Int.toNat_natCast] <;> rfl) ?_
   refine pops_done (hR11 _ ?_)
   clear hR11 R11
   try simp only [thenK, scopeK]
   refine hN10 _ ?_
   clear hN10 N10
   refine pwp_then fun N12 hN12 => ?_
   refine pwp_reg fun R13 hR13 => ?_
   refine pops_mv (.inl rfl) rfl (by simp only [St.eval, upd_at, Nat.reduceEqDiff, if_true, if_false, e0_1, e0_15, e0_16, e0_17, encPV, hget, Int.toNat_natCast] <;> rfl) ?_
   refine pops_to rfl fun M hM => ?_
   simp only [pop, St.eval, constSlot, upd_at, Nat.reduceEqDiff, if_true, if_false, popCall, List.toList_toArray, List.map_cons, List.map_nil, popBuiltin, popLen, lenOfSlot, List.length_map, Tryd.underlying9, eq_self, true_and, and_true, str_list, str_size, str_app, str_cut, str_get, e0_1, e0_15, e0_16, e0_17, encPV, hget, Int.toNat_natCast]
   refine hM _ _ ?_
   clear hM M
   refine pops_mv (.inl rfl) rfl (by simp only [St.eval, constSlot] <;> rfl) ?_
   refine pops_done (hR13 _ ?_)
   clear hR13 R13
   try simp only [thenK, scopeK]
   refine hN12 _ ?_
   clear hN12 N12
   refine pwp_block ?_
   refine pwp_loop (fun k σ => ∃ (j : Nat), (k = s.length - j) ∧ (j ≤ s.length) ∧ (∀ m < j, ∀ c, s[m]? = some c → ((s.take m).contains c || badB x.kase c) = false) ∧ (Same h σ.hp) ∧ (σ.env 1 = .sv (.one (.rop (encPV x)))) ∧ (σ.env 15 = .sv (.one (.ro true 1 (pstrs [x.forbid, x.head, x.tail])))) ∧ (σ.env 16 = .sv (.one (pint ([x.forbid, x.head, x.tail].length : Nat)))) ∧ (σ.env 17 = .sv (.one (pint (i : Nat)))) ∧ (σ.env 4 = .sv (.one (pstr s))) ∧ (σ.env 22 = .sv (.one (pint (s.length : Nat)))) ∧ (σ.env 23 = .sv (.one (pint (j : Nat))))) _ ⟨_, .refl _ _, 0, rfl, ?_⟩ ?_
   · exact ⟨Nat.zero_le _, by intro m hm; omega, sl0, by simp only [upd_at, Nat.reduceEqDiff, if_true, if_false, e0_1, e0_15, e0_16, e0_17, encPV, hget, Int.toNat_natCast], by simp only [upd_at, Nat.reduceEqDiff, if_true, if_false, e0_1, e0_15, e0_16, e0_17, encPV, hget, Int.toNat_natCast], by simp only [upd_at, Nat.reduceEqDiff, if_true, if_false, e0_1, e0_15, e0_16, e0_17, encPV, hget, Int.toNat_natCast], by simp only [upd_at, Nat.reduceEqDiff, if_true, if_false, e0_1, e0_15, e0_16, e0_17, encPV, hget, Int.toNat_natCast], by simp only [upd_at, Nat.reduceEqDiff, if_true, if_false, e0_1, e0_15, e0_16, e0_17, encPV, hget, Int.toNat_natCast], by simp only [upd_at, Nat.reduceEqDiff, if_true, if_false, e0_1, e0_15, e0_16, e0_17, encPV, hget, Int.toNat_natCast], by simp only [upd_at, Nat.reduceEqDiff, if_true, if_false]; rfl⟩
   ·rintro k ⟨e, hp1⟩ ⟨j, hk1, hx1_0, hx1_1, sl1, e1_1, e1_15, e1_16, e1_17, e1_4, e1_22, e1_23⟩
    simp only at sl1 e1_1 e1_15 e1_16 e1_17 e1_4 e1_22 e1_23
    refine pwp_then fun N14 hN14 => ?_
    refine pwp_reg fun R15 hR15 => ?_
    refine pops_to rfl fun M hM => ?_
    simp only [pop, St.eval, constSlot, upd_at, Nat.reduceEqDiff, if_true, if_false, popBin, binK, intK, strK, eqK, eq_self, true_and, and_true, e1_1, e1_15, e1_16, e1_17, e1_4, e1_22, e1_23, encPV]
    refine hM _ _ ?_
    clear hM M
    refine pops_done (hR15 _ ?_)
    clear hR15 R15
    try simp only [thenK, scopeK]
    refine hN14 _ ?_
    clear hN14 N14
    refine pwp_then fun N16 hN16 => ?_
    refine pwp_cond (by simp only [St.eval, upd_at, Nat.reduceEqDiff, if_true, if_false, e1_1, e1_15, e1_16, e1_17, e1_4, e1_22, e1_23, encPV] <;> rfl) (fun c24 => ?_) (fun c24 => ?_)
    ·skip
     have hj : j < s.length := by have := of_decide_eq_true c24; omega
     obtain ⟨c, hx⟩ : ∃ c, s[j]? = some c := ⟨_, List.getElem?_eq_getElem hj⟩
     have hwj := wrap_succ (i := j) (by omega)
     refine pwp_skip ?_
     try simp only [thenK, scopeK]
     refine hN16 _ ?_
     clear hN16 N16
     refine pwp_then fun N17 hN17 => ?_
     refine pwp_block ?_
     refine pwp_then fun N18 hN18 => ?_
     refine pwp_reg fun R19 hR19 => ?_
     refine pops_mv (.inl rfl) rfl (by simp only [St.eval, upd_at, Nat.reduceEqDiff, if_true, if_false, e1_1, e1_15, e1_16, e1_17, e1_4, e1_22, e1_23, encPV] <;> rfl) ?_
     refine pops_mv (.inr rfl) rfl (by simp only [St.eval, upd_at, Nat.reduceEqDiff, if_true, if_false, e1_1, e1_15, e1_16, e1_17, e1_4, e1_22, e1_23, encPV] <;> rfl) ?_
     refine pops_done (hR19 _ ?_)
     clear hR19 R19
     try simp only [thenK, scopeK]
     refine hN18 _ ?_
     clear hN18 N18
     refine pwp_then fun N20 hN20 => ?_
     refine pwp_reg fun R21 hR21 => ?_
     refine pops_mv (.inl rfl) rfl (by simp only [St.eval, upd_at, Nat.reduceEqDiff, if_true, if_false, e1_1, e1_15, e1_16, e1_17, e1_4, e1_22, e1_23, encPV] <;> rfl) ?_
     refine pops_mv (.inl rfl) rfl (by simp only [St.eval, upd_at, Nat.reduceEqDiff, if_true, if_false, e1_1, e1_15, e1_16, e1_17, e1_4, e1_22, e1_23, encPV] <;> rfl) ?_
     refine pops_to rfl fun M hM => ?_
     simp only [pop, St.eval, constSlot, upd_at, Nat.reduceEqDiff, if_true, if_false, popIndex, partK, Tryd.underlying9, eq_self, true_and, and_true, str_list, str_size, str_app, str_cut, str_get, e1_1, e1_15, e1_16, e1_17, e1_4, e1_22, e1_23, encPV, hx, Int.toNat_natCast]
     refine ⟨Int.natCast_nonneg _, hM _ _ ?_⟩
     clear hM M
     refine pops_mv (.inr rfl) rfl (by simp only [St.eval, upd_at, Nat.reduceEqDiff, if_true, if_false, e1_1, e1_15, e1_16, e1_17, e1_4, e1_22, e1_23, encPV] <;> rfl) ?_
     refine pops_done (hR21 _ ?_)
     clear hR21 R21
     try simp only [thenK, scopeK]
     refine hN20 _ ?_
     clear hN20 N20
     refine pwp_then fun N22 hN22 => ?_
     refine pwp_reg fun R23 hR23 => ?_
     refine pops_mv (.inl rfl) rfl (by simp only [St.eval, upd_at, Nat.reduceEqDiff, if_true, if_false, e1_1, e1_15, e1_16, e1_17, e1_4, e1_22, e1_23, encPV] <;> rfl) ?_
     refine pops_mv (.inl rfl) rfl (by simp only [St.eval, upd_at, Nat.reduceEqDiff, if_true, if_false, e1_1, e1_15, e1_16, e1_17, e1_4, e1_22, e1_23, encPV] <;> rfl) ?_
     refine pops_to rfl fun M hM => ?_
     simp only [pop, St.eval, constSlot, upd_at, Nat.reduceEqDiff, if_true, if_false, popSlice, boundOf, Option.map_none, Option.map_some, Tryd.underlying9, eq_self, true_and, and_true, str_list, str_size, str_app, str_cut, str_get, e1_1, e1_15, e1_16, e1_17, e1_4, e1_22, e1_23, encPV, Int.toNat_natCast, Int.toNat_zero, List.drop_zero]
     refine ⟨by omega, by omega, by omega, hM _ _ ?_⟩
     clear hM M
     refine pops_to rfl fun M hM => ?_
     simp only [pop, St.eval, constSlot, upd_at, Nat.reduceEqDiff, if_true, if_false, eq_self, true_and, and_true, str_list, str_size, str_app, str_cut, str_get, e1_1, e1_15, e1_16, e1_17, e1_4, e1_22, e1_23, encPV, Int.toNat_natCast, hwj, List.take_length]
     refine hM _ _ ?_
     clear hM M
     refine pops_to rfl fun M hM => ?_
     simp only [pop, St.eval, constSlot, upd_at, Nat.reduceEqDiff, if_true, if_false, popCall, List.toList_toArray, List.map_cons, List.map_nil, svs, List.mapM_cons, List.mapM_nil, Option.bind_eq_bind, Option.bind_some, Option.pure_def, List.append_nil, List.cons_append, List.nil_append, str_size, e1_1, e1_15, e1_16, e1_17, e1_4, e1_22, e1_23, encPV]
     refine PFun.use (hasByte_fun W0 (s.take j) c) fun h1 s1 => hM _ _ ?_
     replace s1 := Same.trans sl1 s1
     clear hM M
     refine pops_mv (.inl rfl) rfl (by simp only [St.eval, upd_at, Nat.reduceEqDiff, if_true, if_false, e1_1, e1_15, e1_16, e1_17, e1_4, e1_22, e1_23, encPV] <;> rfl) ?_
     apply pops_or 3 34 37 [35, 36] (by simp only [upd_at, Nat.reduceEqDiff, if_true, if_false, e1_1, e1_15, e1_16, e1_17, e1_4, e1_22, e1_23, encPV] <;> rfl)
     ·skip
      intro g34_0 J24 hJ24
      simp only [List.take_succ_cons, List.take_zero]
      simp only [anyAt_cons, anyAt_nil] at hJ24
      refine pops_mvg (.inl rfl) rfl rfl (by simp only [upd_at, Nat.reduceEqDiff, if_true, if_false, e1_1, e1_15, e1_16, e1_17, e1_4, e1_22, e1_23, encPV, g34_0]) (by simp only [St.eval, upd_at, Nat.reduceEqDiff, if_true, if_false, e1_1, e1_15, e1_16, e1_17, e1_4, e1_22, e1_23, encPV, g34_0] <;> rfl) ?_
      refine pops_do rfl rfl (by simp only [upd_at, Nat.reduceEqDiff, if_true, if_false, e1_1, e1_15, e1_16, e1_17, e1_4, e1_22, e1_23, encPV, g34_0]) fun M hM => ?_
      simp only [pop, St.eval, constSlot, upd_at, Nat.reduceEqDiff, if_true, if_false, popCall, List.toList_toArray, List.map_cons, List.map_nil, svs, List.mapM_cons, List.mapM_nil, Option.bind_eq_bind, Option.bind_some, Option.pure_def, List.append_nil, List.cons_append, List.nil_append, str_size, e1_1, e1_15, e1_16, e1_17, e1_4, e1_22, e1_23, encPV, g34_0]
      refine PFun.use (letter_fun W0 c) fun h2 s2 => hM _ _ ?_
      replace s2 := Same.trans (Same.refl _) s2
      clear hM M
      refine pops_to rfl fun M hM => ?_
      simp only [pop, St.eval, constSlot, upd_at, Nat.reduceEqDiff, if_true, if_false, popIf, true_implies, false_implies, Bool.true_eq_false, Bool.false_eq_true, reduceCtorEq, true_and, and_true, e1_1, e1_15, e1_16, e1_17, e1_4, e1_22, e1_23, encPV, g34_0]
      refine hM _ _ ?_
      clear hM M
      exact pops_done (hJ24 _ _ s2 (wk_same (wk_any ((wk_any (Wk.refl _ _))))))
     ·skip
      intro g34_0 J24 hJ24
      simp only [List.take_succ_cons, List.take_zero]
      simp only [anyAt_cons, anyAt_nil] at hJ24
      refine pops_off (b := true) rfl rfl (by simp only [upd_at, Nat.reduceEqDiff, if_true, if_false, e1_1, e1_15, e1_16, e1_17, e1_4, e1_22, e1_23, encPV, g34_0]) (by decide) ?_
      refine pops_off (b := true) rfl rfl (by simp only [upd_at, Nat.reduceEqDiff, if_true, if_false, e1_1, e1_15, e1_16, e1_17, e1_4, e1_22, e1_23, encPV, g34_0]) (by decide) ?_
      refine pops_to rfl fun M hM => ?_
      simp only [pop, St.eval, constSlot, upd_at, Nat.reduceEqDiff, if_true, if_false, popIf, true_implies, false_implies, Bool.true_eq_false, Bool.false_eq_true, reduceCtorEq, true_and, and_true, e1_1, e1_15, e1_16, e1_17, e1_4, e1_22, e1_23, encPV, g34_0]
      refine hM _ _ ?_
      clear hM M
      exact pops_done (hJ24 _ _ (Same.refl _) (wk_same (wk_any ((wk_any (Wk.refl _ _))))))
     simp only [List.drop_succ_cons, List.drop_zero, anyAt_cons, anyAt_nil]
     intro hj24 sj24
     replace sj24 := Same.trans s1 sj24
     refine pops_mv (.inl rfl) rfl (by simp only [St.eval, upd_at, Nat.reduceEqDiff, if_true, if_false, e1_1, e1_15, e1_16, e1_17, e1_4, e1_22, e1_23, encPV] <;> rfl) ?_
     apply pops_or 3 38 41 [39, 40] (by simp only [upd_at, Nat.reduceEqDiff, if_true, if_false, e1_1, e1_15, e1_16, e1_17, e1_4, e1_22, e1_23, encPV] <;> rfl)
     ·skip
      intro g38_0 J25 hJ25
      simp only [List.take_succ_cons, List.take_zero]
      simp only [anyAt_cons, anyAt_nil] at hJ25
      refine pops_mvg (.inl rfl) rfl rfl (by simp only [upd_at, Nat.reduceEqDiff, if_true, if_false, e1_1, e1_15, e1_16, e1_17, e1_4, e1_22, e1_23, encPV, g38_0]) (by simp only [St.eval, upd_at, Nat.reduceEqDiff, if_true, if_false, e1_1, e1_15, e1_16, e1_17, e1_4, e1_22, e1_23, encPV, g38_0] <;> rfl) ?_
      refine pops_do rfl rfl (by simp only [upd_at, Nat.reduceEqDiff, if_true, if_false, e1_1, e1_15, e1_16, e1_17, e1_4, e1_22, e1_23, encPV, g38_0]) fun M hM => ?_
      simp only [pop, St.eval, constSlot, upd_at, Nat.reduceEqDiff, if_true, if_false, popCall, List.toList_toArray, List.map_cons, List.map_nil, svs, List.mapM_cons, List.mapM_nil, Option.bind_eq_bind, Option.bind_some, Option.pure_def, List.append_nil, List.cons_append, List.nil_append, str_size, e1_1, e1_15, e1_16, e1_17, e1_4, e1_22, e1_23, encPV, g38_0]
      refine PFun.use (digit_fun W0 c) fun h3 s3 => hM _ _ ?_
      replace s3 := Same.trans (Same.refl _) s3
      clear hM M
      refine pops_to rfl fun M hM => ?_
      simp only [pop, St.eval, constSlot, upd_at, Nat.reduceEqDiff, if_true, if_false, popIf, true_implies, false_implies, Bool.true_eq_false, Bool.false_eq_true, reduceCtorEq, true_and, and_true, e1_1, e1_15, e1_16, e1_17, e1_4, e1_22, e1_23, encPV, g38_0]
      refine hM _ _ ?_
      clear hM M
      exact pops_done (hJ25 _ _ s3 (wk_same (wk_any ((wk_any (Wk.refl _ _))))))
     ·skip
      intro g38_0 J25 hJ25
      simp only [List.take_succ_cons, List.take_zero]
      simp only [anyAt_cons, anyAt_nil] at hJ25
      refine pops_off (b := true) rfl rfl (by simp only [upd_at, Nat.reduceEqDiff, if_true, if_false, e1_1, e1_15, e1_16, e1_17, e1_4, e1_22, e1_23, encPV, g38_0]) (by decide) ?_
      refine pops_off (b := true) rfl rfl (by simp only [upd_at, Nat.reduceEqDiff, if_true, if_false, e1_1, e1_15, e1_16, e1_17, e1_4, e1_22, e1_23, encPV, g38_0]) (by decide) ?_
      refine pops_to rfl fun M hM => ?_
      simp only [pop, St.eval, constSlot, upd_at, Nat.reduceEqDiff, if_true, if_false, popIf, true_implies, false_implies, Bool.true_eq_false, Bool.false_eq_true, reduceCtorEq, true_and, and_true, e1_1, e1_15, e1_16, e1_17, e1_4, e1_22, e1_23, encPV, g38_0]
      refine hM _ _ ?_
      clear hM M
      exact pops_done (hJ25 _ _ (Same.refl _) (wk_same (wk_any ((wk_any (Wk.refl _ _))))))
     simp only [List.drop_succ_cons, List.drop_zero, anyAt_cons, anyAt_nil]
     intro hj25 sj25
     replace sj25 := Same.trans sj24 sj25
     refine pops_mv (.inl rfl) rfl (by simp only [St.eval, upd_at, Nat.reduceEqDiff, if_true, if_false, e1_1, e1_15, e1_16, e1_17, e1_4, e1_22, e1_23, encPV] <;> rfl) ?_
     apply pops_or0 3 42 45 [43, 44] (by simp only [upd_at, Nat.reduceEqDiff, if_true, if_false, e1_1, e1_15, e1_16, e1_17, e1_4, e1_22, e1_23, encPV] <;> rfl)
     ·skip
      intro g42_0 J26 hJ26
      simp only [List.take_succ_cons, List.take_zero]
      simp only [anyAt_cons, anyAt_nil] at hJ26
      refine pops_mvg (.inl rfl) rfl rfl (by simp only [upd_at, Nat.reduceEqDiff, if_true, if_false, e1_1, e1_15, e1_16, e1_17, e1_4, e1_22, e1_23, encPV, g42_0]) (by simp only [St.eval, upd_at, Nat.reduceEqDiff, if_true, if_false, e1_1, e1_15, e1_16, e1_17, e1_4, e1_22, e1_23, encPV, g42_0] <;> rfl) ?_
      refine pops_do rfl rfl (by simp only [upd_at, Nat.reduceEqDiff, if_true, if_false, e1_1, e1_15, e1_16, e1_17, e1_4, e1_22, e1_23, encPV, g42_0]) fun M hM => ?_
      simp only [pop, St.eval, constSlot, upd_at, Nat.reduceEqDiff, if_true, if_false, popBin, binK, intK, strK, eqK, Tryd.underlying5, isPtr, eq_self, true_and, and_true, e1_1, e1_15, e1_16, e1_17, e1_4, e1_22, e1_23, encPV, g42_0]
      refine hM _ _ ?_
      clear hM M
      refine pops_to rfl fun M hM => ?_
      simp only [pop, St.eval, constSlot, upd_at, Nat.reduceEqDiff, if_true, if_false, popIf, true_implies, false_implies, Bool.true_eq_false, Bool.false_eq_true, reduceCtorEq, true_and, and_true, e1_1, e1_15, e1_16, e1_17, e1_4, e1_22, e1_23, encPV, g42_0]
      refine hM _ _ ?_
      clear hM M
      exact pops_done (hJ26 _ (wk_same (wk_any ((wk_any (Wk.refl _ _))))))
     ·skip
      intro g42_0 J26 hJ26
      simp only [List.take_succ_cons, List.take_zero]
      simp only [anyAt_cons, anyAt_nil] at hJ26
      refine pops_off (b := true) rfl rfl (by simp only [upd_at, Nat.reduceEqDiff, if_true, if_false, e1_1, e1_15, e1_16, e1_17, e1_4, e1_22, e1_23, encPV, g42_0]) (by decide) ?_
      refine pops_off (b := true) rfl rfl (by simp only [upd_at, Nat.reduceEqDiff, if_true, if_false, e1_1, e1_15, e1_16, e1_17, e1_4, e1_22, e1_23, encPV, g42_0]) (by decide) ?_
      refine pops_to rfl fun M hM => ?_
      simp only [pop, St.eval, constSlot, upd_at, Nat.reduceEqDiff, if_true, if_false, popIf, true_implies, false_implies, Bool.true_eq_false, Bool.false_eq_true, reduceCtorEq, true_and, and_true, e1_1, e1_15, e1_16, e1_17, e1_4, e1_22, e1_23, encPV, g42_0]
      refine hM _ _ ?_
      clear hM M
      exact pops_done (hJ26 _ (wk_same (wk_any ((wk_any (Wk.refl _ _))))))
     simp only [List.drop_succ_cons, List.drop_zero, anyAt_cons, anyAt_nil]
     refine pops_mv (.inl rfl) rfl (by simp only [St.eval, upd_at, Nat.reduceEqDiff, if_true, if_false, e1_1, e1_15, e1_16, e1_17, e1_4, e1_22, e1_23, encPV] <;> rfl) ?_
     apply pops_or0 3 46 49 [47, 48] (by simp only [upd_at, Nat.reduceEqDiff, if_true, if_false, e1_1, e1_15, e1_16, e1_17, e1_4, e1_22, e1_23, encPV] <;> rfl)
     ·skip
      intro g46_0 J27 hJ27
      simp only [List.take_succ_cons, List.take_zero]
      simp only [anyAt_cons, anyAt_nil] at hJ27
      refine pops_mvg (.inl rfl) rfl rfl (by simp only [upd_at, Nat.reduceEqDiff, if_true, if_false, e1_1, e1_15, e1_16, e1_17, e1_4, e1_22, e1_23, encPV, g46_0]) (by simp only [St.eval, upd_at, Nat.reduceEqDiff, if_true, if_false, e1_1, e1_15, e1_16, e1_17, e1_4, e1_22, e1_23, encPV, g46_0] <;> rfl) ?_
      refine pops_do rfl rfl (by simp only [upd_at, Nat.reduceEqDiff, if_true, if_false, e1_1, e1_15, e1_16, e1_17, e1_4, e1_22, e1_23, encPV, g46_0]) fun M hM => ?_
      simp only [pop, St.eval, constSlot, upd_at, Nat.reduceEqDiff, if_true, if_false, popBin, binK, intK, strK, eqK, Tryd.underlying5, isPtr, eq_self, true_and, and_true, e1_1, e1_15, e1_16, e1_17, e1_4, e1_22, e1_23, encPV, g46_0]
      refine hM _ _ ?_
      clear hM M
      refine pops_to rfl fun M hM => ?_
      simp only [pop, St.eval, constSlot, upd_at, Nat.reduceEqDiff, if_true, if_false, popIf, true_implies, false_implies, Bool.true_eq_false, Bool.false_eq_true, reduceCtorEq, true_and, and_true, e1_1, e1_15, e1_16, e1_17, e1_4, e1_22, e1_23, encPV, g46_0]
      refine hM _ _ ?_
      clear hM M
      exact pops_done (hJ27 _ (wk_same (wk_any ((wk_any (Wk.refl _ _))))))
     ·skip
      intro g46_0 J27 hJ27
      simp only [List.take_succ_cons, List.take_zero]
      simp only [anyAt_cons, anyAt_nil] at hJ27
      refine pops_off (b := true) rfl rfl (by simp only [upd_at, Nat.reduceEqDiff, if_true, if_false, e1_1, e1_15, e1_16, e1_17, e1_4, e1_22, e1_23, encPV, g46_0]) (by decide) ?_
      refine pops_off (b := true) rfl rfl (by simp only [upd_at, Nat.reduceEqDiff, if_true, if_false, e1_1, e1_15, e1_16, e1_17, e1_4, e1_22, e1_23, encPV, g46_0]) (by decide) ?_
      refine pops_to rfl fun M hM => ?_
      simp only [pop, St.eval, constSlot, upd_at, Nat.reduceEqDiff, if_true, if_false, popIf, true_implies, false_implies, Bool.true_eq_false, Bool.false_eq_true, reduceCtorEq, true_and, and_true, e1_1, e1_15, e1_16, e1_17, e1_4, e1_22, e1_23, encPV, g46_0]
      refine hM _ _ ?_
      clear hM M
      exact pops_done (hJ27 _ (wk_same (wk_any ((wk_any (Wk.refl _ _))))))
     simp only [List.drop_succ_cons, List.drop_zero, anyAt_cons, anyAt_nil]
     refine pops_mv (.inl rfl) rfl (by simp only [St.eval, upd_at, Nat.reduceEqDiff, if_true, if_false, e1_1, e1_15, e1_16, e1_17, e1_4, e1_22, e1_23, encPV] <;> rfl) ?_
     apply pops_or0 7 50 57 [51, 52, 53, 54, 55, 56] (by simp only [upd_at, Nat.reduceEqDiff, if_true, if_false, e1_1, e1_15, e1_16, e1_17, e1_4, e1_22, e1_23, encPV] <;> rfl)
     ·skip
      intro g50_0 J28 hJ28
      simp only [List.take_succ_cons, List.take_zero]
      simp only [anyAt_cons, anyAt_nil] at hJ28
      refine pops_do rfl rfl (by simp only [upd_at, Nat.reduceEqDiff, if_true, if_false, e1_1, e1_15, e1_16, e1_17, e1_4, e1_22, e1_23, encPV, g50_0]) fun M hM => ?_
      simp only [pop, St.eval, constSlot, upd_at, Nat.reduceEqDiff, if_true, if_false, popFieldAddr, fieldOf, List.drop_succ_cons, List.drop_zero, List.getElem?_toArray, List.getElem?_cons_zero, List.getElem?_cons_succ, Tryd.underlying64, sz4, e1_1, e1_15, e1_16, e1_17, e1_4, e1_22, e1_23, encPV, g50_0]
      refine ⟨⟨_, rfl⟩, hM _ _ ?_⟩
      clear hM M
      refine pops_do rfl rfl (by simp only [upd_at, Nat.reduceEqDiff, if_true, if_false, e1_1, e1_15, e1_16, e1_17, e1_4, e1_22, e1_23, encPV, g50_0]) fun M hM => ?_
      simp only [pop, St.eval, constSlot, upd_at, Nat.reduceEqDiff, if_true, if_false, popLoad, loadK, isAggD, List.drop_zero, List.getElem?_toArray, List.getElem?_cons_zero, List.getElem?_cons_succ, Bool.false_eq_true, Tryd.underlying4, sz4, eq_self, true_and, and_true, e1_1, e1_15, e1_16, e1_17, e1_4, e1_22, e1_23, encPV, g50_0]
      refine hM _ _ ?_
      clear hM M
      refine pops_mvg (.inl rfl) rfl rfl (by simp only [upd_at, Nat.reduceEqDiff, if_true, if_false, e1_1, e1_15, e1_16, e1_17, e1_4, e1_22, e1_23, encPV, g50_0]) (by simp only [St.eval, upd_at, Nat.reduceEqDiff, if_true, if_false, e1_1, e1_15, e1_16, e1_17, e1_4, e1_22, e1_23, encPV, g50_0] <;> rfl) ?_
      apply pops_and0 3 53 56 [54, 55] (by simp only [upd_at, Nat.reduceEqDiff, if_true, if_false, e1_1, e1_15, e1_16, e1_17, e1_4, e1_22, e1_23, encPV, g50_0] <;> rfl)
      ·skip
       intro g53_1 J29 hJ29
       simp only [List.take_succ_cons, List.take_zero]
       simp only [anyAt_cons, anyAt_nil] at hJ29
       refine pops_mvg (.inl rfl) rfl rfl (by simp only [upd_at, Nat.reduceEqDiff, if_true, if_false, e1_1, e1_15, e1_16, e1_17, e1_4, e1_22, e1_23, encPV, g50_0, g53_1]) (by simp only [St.eval, upd_at, Nat.reduceEqDiff, if_true, if_false, e1_1, e1_15, e1_16, e1_17, e1_4, e1_22, e1_23, encPV, g50_0, g53_1] <;> rfl) ?_
       refine pops_do rfl rfl (by simp only [upd_at, Nat.reduceEqDiff, if_true, if_false, e1_1, e1_15, e1_16, e1_17, e1_4, e1_22, e1_23, encPV, g50_0, g53_1]) fun M hM => ?_
       simp only [pop, St.eval, constSlot, upd_at, Nat.reduceEqDiff, if_true, if_false, popBin, binK, intK, strK, eqK, Tryd.underlying5, isPtr, eq_self, true_and, and_true, e1_1, e1_15, e1_16, e1_17, e1_4, e1_22, e1_23, encPV, g50_0, g53_1]
       refine hM _ _ ?_
       clear hM M
       refine pops_do rfl rfl (by simp only [upd_at, Nat.reduceEqDiff, if_true, if_false, e1_1, e1_15, e1_16, e1_17, e1_4, e1_22, e1_23, encPV, g50_0, g53_1]) fun M hM => ?_
       simp only [pop, St.eval, constSlot, upd_at, Nat.reduceEqDiff, if_true, if_false, popIf, true_implies, false_implies, Bool.true_eq_false, Bool.false_eq_true, reduceCtorEq, true_and, and_true, e1_1, e1_15, e1_16, e1_17, e1_4, e1_22, e1_23, encPV, g50_0, g53_1]
       refine hM _ _ ?_
       clear hM M
       exact pops_done (hJ29 _ (wk_same (wk_any ((wk_any (Wk.refl _ _))))))
      ·skip
       intro g53_1 J29 hJ29
       simp only [List.take_succ_cons, List.take_zero]
       simp only [anyAt_cons, anyAt_nil] at hJ29
       refine pops_off (b := false) rfl rfl (by simp only [upd_at, Nat.reduceEqDiff, if_true, if_false, e1_1, e1_15, e1_16, e1_17, e1_4, e1_22, e1_23, encPV, g50_0, g53_1]) (by decide) ?_
       refine pops_off (b := false) rfl rfl (by simp only [upd_at, Nat.reduceEqDiff, if_true, if_false, e1_1, e1_15, e1_16, e1_17, e1_4, e1_22, e1_23, encPV, g50_0, g53_1]) (by decide) ?_
       refine pops_do rfl rfl (by simp only [upd_at, Nat.reduceEqDiff, if_true, if_false, e1_1, e1_15, e1_16, e1_17, e1_4, e1_22, e1_23, encPV, g50_0, g53_1]) fun M hM => ?_
       simp only [pop, St.eval, constSlot, upd_at, Nat.reduceEqDiff, if_true, if_false, popIf, true_implies, false_implies, Bool.true_eq_false, Bool.false_eq_true, reduceCtorEq, true_and, and_true, e1_1, e1_15, e1_16, e1_17, e1_4, e1_22, e1_23, encPV, g50_0, g53_1]
       refine hM _ _ ?_
       clear hM M
       exact pops_done (hJ29 _ (wk_same (wk_any ((wk_any (Wk.refl _ _))))))
      simp only [List.drop_succ_cons, List.drop_zero, anyAt_cons, anyAt_nil]
      refine pops_to rfl fun M hM => ?_
      simp only [pop, St.eval, constSlot, upd_at, Nat.reduceEqDiff, if_true, if_false, popIf, true_implies, false_implies, Bool.true_eq_false, Bool.false_eq_true, reduceCtorEq, true_and, and_true, e1_1, e1_15, e1_16, e1_17, e1_4, e1_22, e1_23, encPV, g50_0]
      refine hM _ _ ?_
      clear hM M
      exact pops_done (hJ28 _ (wk_same (wk_any ((wk_any ((wk_any ((wk_any ((wk_any ((wk_any (Wk.refl _ _))))))))))))))
     ·skip
      intro g50_0 J28 hJ28
      simp only [List.take_succ_cons, List.take_zero]
      simp only [anyAt_cons, anyAt_nil] at hJ28
      refine pops_off (b := true) rfl rfl (by simp only [upd_at, Nat.reduceEqDiff, if_true, if_false, e1_1, e1_15, e1_16, e1_17, e1_4, e1_22, e1_23, encPV, g50_0]) (by decide) ?_
      refine pops_off (b := true) rfl rfl (by simp only [upd_at, Nat.reduceEqDiff, if_true, if_false, e1_1, e1_15, e1_16, e1_17, e1_4, e1_22, e1_23, encPV, g50_0]) (by decide) ?_
      refine pops_off (b := true) rfl rfl (by simp only [upd_at, Nat.reduceEqDiff, if_true, if_false, e1_1, e1_15, e1_16, e1_17, e1_4, e1_22, e1_23, encPV, g50_0]) (by decide) ?_
      refine pops_off0 rfl rfl (by simp only [upd_at, Nat.reduceEqDiff, if_true, if_false, e1_1, e1_15, e1_16, e1_17, e1_4, e1_22, e1_23, encPV, g50_0]) ?_
      refine pops_off0 rfl rfl (by simp only [upd_at, Nat.reduceEqDiff, if_true, if_false, e1_1, e1_15, e1_16, e1_17, e1_4, e1_22, e1_23, encPV, g50_0]) ?_
      refine pops_off (b := true) rfl rfl (by simp only [upd_at, Nat.reduceEqDiff, if_true, if_false, e1_1, e1_15, e1_16, e1_17, e1_4, e1_22, e1_23, encPV, g50_0]) (by decide) ?_
      refine pops_to rfl fun M hM => ?_
      simp only [pop, St.eval, constSlot, upd_at, Nat.reduceEqDiff, if_true, if_false, popIf, true_implies, false_implies, Bool.true_eq_false, Bool.false_eq_true, reduceCtorEq, true_and, and_true, e1_1, e1_15, e1_16, e1_17, e1_4, e1_22, e1_23, encPV, g50_0]
      refine hM _ _ ?_
      clear hM M
      exact pops_done (hJ28 _ (wk_same (wk_any ((wk_any ((wk_any ((wk_any ((wk_any ((wk_any (Wk.refl _ _))))))))))))))
     simp only [List.drop_succ_cons, List.drop_zero, anyAt_cons, anyAt_nil]
     refine pops_done (hR23 _ ?_)
     clear hR23 R23
     try simp only [thenK, scopeK]
     refine hN22 _ ?_
     clear hN22 N22
     refine pwp_cond (by simp only [St.eval, upd_at, Nat.reduceEqDiff, if_true, if_false, e1_1, e1_15, e1_16, e1_17, e1_4, e1_22, e1_23, encPV] <;> rfl) (fun c57 => ?_) (fun c57 => ?_)
     ·skip
      rw [u8_37, u8_47, u8_94, bad_prog] at c57
      have he := enc6 hs (formB_bad hx c57)
      refine pwp_then fun N30 hN30 => ?_
      refine pwp_reg fun R31 hR31 => ?_
      refine pops_mv (.inr rfl) rfl (by simp only [St.eval, constSlot] <;> rfl) ?_
      refine pops_done (hR31 _ ?_)
      clear hR31 R31
      try simp only [thenK, scopeK]
      refine hN30 _ ?_
      clear hN30 N30
      refine pwp_ret ?_
      simp only [thenK, blockK, scopeK, bodyK]
      clear hN17 N17 hN9 N9 hN3 N3
      refine ⟨_, rfl, endFun sj25 ?_⟩
      try simp only [upd_at, Nat.reduceEqDiff, if_true, if_false, e1_1, e1_15, e1_16, e1_17, e1_4, e1_22, e1_23, encPV]
      all_goals
       rw [he]
     ·skip
      rw [u8_37, u8_47, u8_94, bad_prog] at c57
      refine pwp_skip ?_
      try simp only [blockK, thenK, scopeK]
      try simp only [thenK, scopeK]
      refine hN17 _ ?_
      clear hN17 N17
      refine pwp_reg fun R32 hR32 => ?_
      refine pops_to rfl fun M hM => ?_
      simp only [pop, St.eval, constSlot, upd_at, Nat.reduceEqDiff, if_true, if_false, popBin, binK, intK, strK, eqK, eq_self, true_and, and_true, e1_1, e1_15, e1_16, e1_17, e1_4, e1_22, e1_23, encPV]
      refine hM _ _ ?_
      clear hM M
      refine pops_mv (.inl rfl) rfl (by simp only [St.eval, upd_at, Nat.reduceEqDiff, if_true, if_false, e1_1, e1_15, e1_16, e1_17, e1_4, e1_22, e1_23, encPV] <;> rfl) ?_
      refine pops_done (hR32 _ ?_)
      clear hR32 R32
      try simp only [thenK, scopeK]
      exact ⟨_, by omega, _, .refl _ _, j + 1, rfl, by omega, pre_step hx hx1_1 (by simpa using c57), sj25, by simp only [upd_at, Nat.reduceEqDiff, if_true, if_false, e1_1, e1_15, e1_16, e1_17, e1_4, e1_22, e1_23, encPV], by simp only [upd_at, Nat.reduceEqDiff, if_true, if_false, e1_1, e1_15, e1_16, e1_17, e1_4, e1_22, e1_23, encPV], by simp only [upd_at, Nat.reduceEqDiff, if_true, if_false, e1_1, e1_15, e1_16, e1_17, e1_4, e1_22, e1_23, encPV], by simp only [upd_at, Nat.reduceEqDiff, if_true, if_false, e1_1, e1_15, e1_16, e1_17, e1_4, e1_22, e1_23, encPV], by simp only [upd_at, Nat.reduceEqDiff, if_true, if_false, e1_1, e1_15, e1_16, e1_17, e1_4, e1_22, e1_23, encPV], by simp only [upd_at, Nat.reduceEqDiff, if_true, if_false, e1_1, e1_15, e1_16, e1_17, e1_4, e1_22, e1_23, encPV], by simp only [upd_at, Nat.reduceEqDiff, if_true, if_false, e1_23]; rw [wrap_succ (by omega)]⟩
    ·skip
     have hj := of_decide_eq_false c24
     have hfs : formB x.kase s = true := formB_good fun m hm c hc => hx1_1 m (by omega) c hc
     refine pwp_exit ?_
     try simp only [thenK, blockK, scopeK, if_true, Nat.reduceEqDiff, if_false]
     clear hN16 N16
     try simp only [blockK, scopeK, if_true, Nat.reduceEqDiff, if_false, thenK]
     try simp only [blockK, thenK, scopeK]
     try simp only [thenK, scopeK]
     refine hN9 _ ?_
     clear hN9 N9
     refine pwp_reg fun R33 hR33 => ?_
     refine pops_to rfl fun M hM => ?_
     simp only [pop, St.eval, constSlot, upd_at, Nat.reduceEqDiff, if_true, if_false, popBin, binK, intK, strK, eqK, eq_self, true_and, and_true, e1_1, e1_15, e1_16, e1_17, e1_4, e1_22, e1_23, encPV]
     refine hM _ _ ?_
     clear hM M
     refine pops_mv (.inl rfl) rfl (by simp only [St.eval, upd_at, Nat.reduceEqDiff, if_true, if_false, e1_1, e1_15, e1_16, e1_17, e1_4, e1_22, e1_23, encPV] <;> rfl) ?_
     refine pops_done (hR33 _ ?_)
     clear hR33 R33
     try simp only [thenK, scopeK]
     exact ⟨_, by omega, _, .refl _ _, i + 1, rfl, by omega, all_step hs hx0_1 hfs, sl1, by simp only [upd_at, Nat.reduceEqDiff, if_true, if_false, e1_1, e1_15, e1_16, e1_17, e1_4, e1_22, e1_23, encPV], by simp only [upd_at, Nat.reduceEqDiff, if_true, if_false, e1_1, e1_15, e1_16, e1_17, e1_4, e1_22, e1_23, encPV], by simp only [upd_at, Nat.reduceEqDiff, if_true, if_false, e1_1, e1_15, e1_16, e1_17, e1_4, e1_22, e1_23, encPV], by simp only [upd_at, Nat.reduceEqDiff, if_true, if_false, e1_17]; rw [wrap_succ (by omega)]⟩
  ·skip
   have hi := of_decide_eq_false c18
   have he := enc_ok6 hi hx0_1
   refine pwp_exit ?_
   try simp only [thenK, blockK, scopeK, if_true, Nat.reduceEqDiff, if_false]
   clear hN8 N8
   try simp only [blockK, scopeK, if_true, Nat.reduceEqDiff, if_false, thenK]
   try simp only [thenK, scopeK]
   refine hN3 _ ?_
   clear hN3 N3
   refine pwp_then fun N34 hN34 => ?_
   refine pwp_then fun N35 hN35 => ?_
   refine pwp_reg fun R36 hR36 => ?_
   refine pops_to rfl fun M hM => ?_
   simp only [pop, St.eval, constSlot, upd_at, Nat.reduceEqDiff, if_true, if_false, popFieldAddr, fieldOf, List.drop_succ_cons, List.drop_zero, List.getElem?_toArray, List.getElem?_cons_zero, List.getElem?_cons_succ, Tryd.underlying64, sz49, e0_1, e0_15, e0_16, e0_17, encPV]
   refine ⟨⟨_, rfl⟩, hM _ _ ?_⟩
   clear hM M
   refine pops_to rfl fun M hM => ?_
   simp only [pop, St.eval, constSlot, upd_at, Nat.reduceEqDiff, if_true, if_false, popLoad, loadK, isAggD, List.drop_zero, List.getElem?_toArray, List.getElem?_cons_zero, List.getElem?_cons_succ, Bool.false_eq_true, Tryd.underlying49, sz49, eq_self, true_and, and_true, e0_1, e0_15, e0_16, e0_17, encPV]
   refine hM _ _ ?_
   clear hM M
   refine pops_to rfl fun M hM => ?_
   simp only [pop, St.eval, constSlot, upd_at, Nat.reduceEqDiff, if_true, if_false, popCall, List.toList_toArray, List.map_cons, List.map_nil, popBuiltin, popLen, lenOfSlot, List.length_map, Tryd.underlying49, eq_self, true_and, and_true, str_list, str_size, str_app, str_cut, str_get, e0_1, e0_15, e0_16, e0_17, encPV]
   refine hM _ _ ?_
   clear hM M
   refine pops_mv (.inl rfl) rfl (by simp only [St.eval, constSlot] <;> rfl) ?_
   refine pops_done (hR36 _ ?_)
   clear hR36 R36
   try simp only [thenK, scopeK]
   refine hN35 _ ?_
   clear hN35 N35
   refine pwp_block ?_
   refine pwp_loop (fun k σ => ∃ (i : Nat), (k = x.names.length - i) ∧ (i ≤ x.names.length) ∧ (namesE (prevAt x.names i) (x.names.drop i) = namesE none x.names) ∧ (Same h σ.hp) ∧ (σ.env 1 = .sv (.one (.rop (encPV x)))) ∧ (σ.env 61 = .sv (.one (.ro false 1 (pstrs x.names)))) ∧ (σ.env 62 = .sv (.one (pint (x.names.length : Nat)))) ∧ (σ.env 63 = .sv (.one (pint (i : Nat))))) _ ⟨_, .refl _ _, 0, rfl, ?_⟩ ?_
   · exact ⟨Nat.zero_le _, rfl, sl0, by simp only [upd_at, Nat.reduceEqDiff, if_true, if_false, e0_1, e0_15, e0_16, e0_17, encPV], by simp only [upd_at, Nat.reduceEqDiff, if_true, if_false, e0_1, e0_15, e0_16, e0_17, encPV], by simp only [upd_at, Nat.reduceEqDiff, if_true, if_false, e0_1, e0_15, e0_16, e0_17, encPV], by simp only [upd_at, Nat.reduceEqDiff, if_true, if_false]; rfl⟩
   ·rintro k ⟨e, hp2⟩ ⟨i, hk2, hx2_0, hx2_1, sl2, e2_1, e2_61, e2_62, e2_63⟩
    simp only at sl2 e2_1 e2_61 e2_62 e2_63
    refine pwp_then fun N37 hN37 => ?_
    refine pwp_reg fun R38 hR38 => ?_
    refine pops_to rfl fun M hM => ?_
    simp only [pop, St.eval, constSlot, upd_at, Nat.reduceEqDiff, if_true, if_false, popBin, binK, intK, strK, eqK, eq_self, true_and, and_true, e2_1, e2_61, e2_62, e2_63, encPV]
    refine hM _ _ ?_
    clear hM M
    refine pops_done (hR38 _ ?_)
    clear hR38 R38
    try simp only [thenK, scopeK]
    refine hN37 _ ?_
    clear hN37 N37
    refine pwp_then fun N39 hN39 => ?_
    refine pwp_cond (by simp only [St.eval, upd_at, Nat.reduceEqDiff, if_true, if_false, e2_1, e2_61, e2_62, e2_63, encPV] <;> rfl) (fun c64 => ?_) (fun c64 => ?_)
    ·skip
     have hi : i < x.names.length := by have := of_decide_eq_true c64; omega
     obtain ⟨n, hn⟩ : ∃ n, x.names[i]? = some n := ⟨_, List.getElem?_eq_getElem hi⟩
     have hget : (pstrs x.names)[i]? = some [pstr n] := by simp only [List.getElem?_map, hn, Option.map_some]
     refine pwp_skip ?_
     try simp only [thenK, scopeK]
     refine hN39 _ ?_
     clear hN39 N39
     refine pwp_then fun N40 hN40 => ?_
     refine pwp_block ?_
     refine pwp_then fun N41 hN41 => ?_
     refine pwp_reg fun R42 hR42 => ?_
     refine pops_mv (.inl rfl) rfl (by simp only [St.eval, upd_at, Nat.reduceEqDiff, if_true, if_false, e2_1, e2_61, e2_62, e2_63, encPV, hget, Int.toNat_natCast] <;> rfl) ?_
     refine pops_to rfl fun M hM => ?_
     simp only [pop, St.eval, constSlot, upd_at, Nat.reduceEqDiff, if_true, if_false, popIndexAddr, Tryd.underlying49, sz9, eq_self, true_and, and_true, str_list, str_size, str_app, str_cut, str_get, e2_1, e2_61, e2_62, e2_63, encPV, hget, Int.toNat_natCast]
     refine ⟨Int.natCast_nonneg _, hM _ _ ?_⟩
     clear hM M
     refine pops_to rfl fun M hM => ?_
     simp only [pop, St.eval, constSlot, upd_at, Nat.reduceEqDiff, if_true, if_false, popLoad, loadK, isAggD, List.drop_zero, List.getElem?_toArray, List.getElem?_cons_zero, List.getElem?_cons_succ, Bool.false_eq_true, Tryd.underlying9, sz9, eq_self, true_and, and_true, e2_1, e2_61, e2_62, e2_63, encPV, hget, Int.toNat_natCast]
     refine hM _ _ ?_
     clear hM M
     refine pops_mv (.inr rfl) rfl (by simp only [St.eval, upd_at, Nat.reduceEqDiff, if_true, if_false, e2_1, e2_61, e2_62, e2_63, encPV, hget, Int.toNat_natCast] <;> rfl) ?_
     refine pops_mv (.inr rfl) rfl (by simp only [St.eval, upd_at, Nat.reduceEqDiff, if_true, if_false, e2_1, e2_61, e2_62, e2_63, encPV, hget, Int.toNat_natCast] <;> rfl) ?_
     refine pops_done (hR42 _ ?_)
     clear hR42 R42
     try simp only [thenK, scopeK]
     refine hN41 _ ?_
     clear hN41 N41
     refine pwp_then fun N43 hN43 => ?_
     refine pwp_then fun N44 hN44 => ?_
     refine pwp_reg fun R45 hR45 => ?_
     refine pops_mv (.inl rfl) rfl (by simp only [St.eval, upd_at, Nat.reduceEqDiff, if_true, if_false, e2_1, e2_61, e2_62, e2_63, encPV, hget, Int.toNat_natCast] <;> rfl) ?_
     refine pops_to rfl fun M hM => ?_
     simp only [pop, St.eval, constSlot, upd_at, Nat.reduceEqDiff, if_true, if_false, popCall, List.toList_toArray, List.map_cons, List.map_nil, svs, List.mapM_cons, List.mapM_nil, Option.bind_eq_bind, Option.bind_some, Option.pure_def, List.append_nil, List.cons_append, List.nil_append, str_size, e2_1, e2_61, e2_62, e2_63, encPV, hget, Int.toNat_natCast]
     refine PFun.use (isName_fun W0 n) fun h4 s4 => hM _ _ ?_
     replace s4 := Same.trans sl2 s4
     clear hM M
     refine pops_to rfl fun M hM => ?_
     simp only [pop, St.eval, constSlot, upd_at, Nat.reduceEqDiff, if_true, if_false, unK, e2_1, e2_61, e2_62, e2_63, encPV, hget, Int.toNat_natCast]
     refine hM _ _ ?_
     clear hM M
     refine pops_mv (.inl rfl) rfl (by simp only [St.eval, upd_at, Nat.reduceEqDiff, if_true, if_false, e2_1, e2_61, e2_62, e2_63, encPV, hget, Int.toNat_natCast] <;> rfl) ?_
     apply pops_or 5 71 76 [72, 73, 74, 75] (by simp only [upd_at, Nat.reduceEqDiff, if_true, if_false, e2_1, e2_61, e2_62, e2_63, encPV, hget, Int.toNat_natCast] <;> rfl)
     ·skip
      intro g71_0 J46 hJ46
      simp only [List.take_succ_cons, List.take_zero]
      simp only [anyAt_cons, anyAt_nil] at hJ46
      have hnl2 := nameB_len g71_0
      refine pops_mvg (.inl rfl) rfl rfl (by simp only [upd_at, Nat.reduceEqDiff, if_true, if_false, e2_1, e2_61, e2_62, e2_63, encPV, hget, Int.toNat_natCast, g71_0]) (by simp only [St.eval, upd_at, Nat.reduceEqDiff, if_true, if_false, e2_1, e2_61, e2_62, e2_63, encPV, hget, Int.toNat_natCast, g71_0] <;> rfl) ?_
      refine pops_do rfl rfl (by simp only [upd_at, Nat.reduceEqDiff, if_true, if_false, e2_1, e2_61, e2_62, e2_63, encPV, hget, Int.toNat_natCast, g71_0]) fun M hM => ?_
      simp only [pop, St.eval, constSlot, upd_at, Nat.reduceEqDiff, if_true, if_false, popCall, List.toList_toArray, List.map_cons, List.map_nil, svs, List.mapM_cons, List.mapM_nil, Option.bind_eq_bind, Option.bind_some, Option.pure_def, List.append_nil, List.cons_append, List.nil_append, str_size, e2_1, e2_61, e2_62, e2_63, encPV, hget, Int.toNat_natCast, g71_0]
      refine PFun.use (fold_fun W0 n (by omega)) fun h5 s5 => hM _ _ ?_
      replace s5 := Same.trans (Same.refl _) s5
      clear hM M
      refine pops_mvg (.inl rfl) rfl rfl (by simp only [upd_at, Nat.reduceEqDiff, if_true, if_false, e2_1, e2_61, e2_62, e2_63, encPV, hget, Int.toNat_natCast, g71_0]) (by simp only [St.eval, upd_at, Nat.reduceEqDiff, if_true, if_false, e2_1, e2_61, e2_62, e2_63, encPV, hget, Int.toNat_natCast, g71_0] <;> rfl) ?_
      refine pops_do rfl rfl (by simp only [upd_at, Nat.reduceEqDiff, if_true, if_false, e2_1, e2_61, e2_62, e2_63, encPV, hget, Int.toNat_natCast, g71_0]) fun M hM => ?_
      simp only [pop, St.eval, constSlot, upd_at, Nat.reduceEqDiff, if_true, if_false, popBin, binK, intK, strK, eqK, Tryd.underlying9, isPtr, eq_self, true_and, and_true, str_list, str_size, str_app, str_cut, str_get, e2_1, e2_61, e2_62, e2_63, encPV, hget, Int.toNat_natCast, g71_0]
      refine hM _ _ ?_
      clear hM M
      refine pops_to rfl fun M hM => ?_
      simp only [pop, St.eval, constSlot, upd_at, Nat.reduceEqDiff, if_true, if_false, popIf, true_implies, false_implies, Bool.true_eq_false, Bool.false_eq_true, reduceCtorEq, true_and, and_true, e2_1, e2_61, e2_62, e2_63, encPV, hget, Int.toNat_natCast, g71_0]
      refine hM _ _ ?_
      clear hM M
      exact pops_done (hJ46 _ _ s5 (wk_same (wk_any ((wk_any ((wk_any ((wk_any (Wk.refl _ _))))))))))
     ·skip
      intro g71_0 J46 hJ46
      simp only [List.take_succ_cons, List.take_zero]
      simp only [anyAt_cons, anyAt_nil] at hJ46
      refine pops_off (b := true) rfl rfl (by simp only [upd_at, Nat.reduceEqDiff, if_true, if_false, e2_1, e2_61, e2_62, e2_63, encPV, hget, Int.toNat_natCast, g71_0]) (by decide) ?_
      refine pops_off (b := true) rfl rfl (by simp only [upd_at, Nat.reduceEqDiff, if_true, if_false, e2_1, e2_61, e2_62, e2_63, encPV, hget, Int.toNat_natCast, g71_0]) (by decide) ?_
      refine pops_off (b := true) rfl rfl (by simp only [upd_at, Nat.reduceEqDiff, if_true, if_false, e2_1, e2_61, e2_62, e2_63, encPV, hget, Int.toNat_natCast, g71_0]) (by decide) ?_
      refine pops_off (b := true) rfl rfl (by simp only [upd_at, Nat.reduceEqDiff, if_true, if_false, e2_1, e2_61, e2_62, e2_63, encPV, hget, Int.toNat_natCast, g71_0]) (by decide) ?_
      refine pops_to rfl fun M hM => ?_
      simp only [pop, St.eval, constSlot, upd_at, Nat.reduceEqDiff, if_true, if_false, popIf, true_implies, false_implies, Bool.true_eq_false, Bool.false_eq_true, reduceCtorEq, true_and, and_true, e2_1, e2_61, e2_62, e2_63, encPV, hget, Int.toNat_natCast, g71_0]
      refine hM _ _ ?_
      clear hM M
      exact pops_done (hJ46 _ _ (Same.refl _) (wk_same (wk_any ((wk_any ((wk_any ((wk_any (Wk.refl _ _))))))))))
     simp only [List.drop_succ_cons, List.drop_zero, anyAt_cons, anyAt_nil]
     intro hj46 sj46
     replace sj46 := Same.trans s4 sj46
     refine pops_mv (.inl rfl) rfl (by simp only [St.eval, upd_at, Nat.reduceEqDiff, if_true, if_false, e2_1, e2_61, e2_62, e2_63, encPV, hget, Int.toNat_natCast] <;> rfl) ?_
     apply pops_or 3 77 80 [78, 79] (by simp only [upd_at, Nat.reduceEqDiff, if_true, if_false, e2_1, e2_61, e2_62, e2_63, encPV, hget, Int.toNat_natCast] <;> rfl)
     ·skip
      intro g77_0 J47 hJ47
      simp only [List.take_succ_cons, List.take_zero]
      simp only [anyAt_cons, anyAt_nil] at hJ47
      have hnl2 := nameB_len2 g77_0
      refine pops_mvg (.inl rfl) rfl rfl (by simp only [upd_at, Nat.reduceEqDiff, if_true, if_false, e2_1, e2_61, e2_62, e2_63, encPV, hget, Int.toNat_natCast, g77_0]) (by simp only [St.eval, upd_at, Nat.reduceEqDiff, if_true, if_false, e2_1, e2_61, e2_62, e2_63, encPV, hget, Int.toNat_natCast, g77_0] <;> rfl) ?_
      refine pops_do rfl rfl (by simp only [upd_at, Nat.reduceEqDiff, if_true, if_false, e2_1, e2_61, e2_62, e2_63, encPV, hget, Int.toNat_natCast, g77_0]) fun M hM => ?_
      simp only [pop, St.eval, constSlot, upd_at, Nat.reduceEqDiff, if_true, if_false, popCall, List.toList_toArray, List.map_cons, List.map_nil, svs, List.mapM_cons, List.mapM_nil, Option.bind_eq_bind, Option.bind_some, Option.pure_def, List.append_nil, List.cons_append, List.nil_append, str_size, e2_1, e2_61, e2_62, e2_63, encPV, hget, Int.toNat_natCast, g77_0]
      refine PFun.use (containsAny_fun W0 n [37, 94] (by decide) (by decide) (by decide) (by omega)) fun h6 s6 => hM _ _ ?_
      replace s6 := Same.trans (Same.refl _) s6
      clear hM M
      refine pops_to rfl fun M hM => ?_
      simp only [pop, St.eval, constSlot, upd_at, Nat.reduceEqDiff, if_true, if_false, popIf, true_implies, false_implies, Bool.true_eq_false, Bool.false_eq_true, reduceCtorEq, true_and, and_true, e2_1, e2_61, e2_62, e2_63, encPV, hget, Int.toNat_natCast, g77_0]
      refine hM _ _ ?_
      clear hM M
      exact pops_done (hJ47 _ _ s6 (wk_same (wk_any ((wk_any (Wk.refl _ _))))))
     ·skip
      intro g77_0 J47 hJ47
      simp only [List.take_succ_cons, List.take_zero]
      simp only [anyAt_cons, anyAt_nil] at hJ47
      refine pops_off (b := true) rfl rfl (by simp only [upd_at, Nat.reduceEqDiff, if_true, if_false, e2_1, e2_61, e2_62, e2_63, encPV, hget, Int.toNat_natCast, g77_0]) (by decide) ?_
      refine pops_off (b := true) rfl rfl (by simp only [upd_at, Nat.reduceEqDiff, if_true, if_false, e2_1, e2_61, e2_62, e2_63, encPV, hget, Int.toNat_natCast, g77_0]) (by decide) ?_
      refine pops_to rfl fun M hM => ?_
      simp only [pop, St.eval, constSlot, upd_at, Nat.reduceEqDiff, if_true, if_false, popIf, true_implies, false_implies, Bool.true_eq_false, Bool.false_eq_true, reduceCtorEq, true_and, and_true, e2_1, e2_61, e2_62, e2_63, encPV, hget, Int.toNat_natCast, g77_0]
      refine hM _ _ ?_
      clear hM M
      exact pops_done (hJ47 _ _ (Same.refl _) (wk_same (wk_any ((wk_any (Wk.refl _ _))))))
     simp only [List.drop_succ_cons, List.drop_zero, anyAt_cons, anyAt_nil]
     intro hj47 sj47
     replace sj47 := Same.trans sj46 sj47
     refine pops_done (hR45 _ ?_)
     clear hR45 R45
     try simp only [thenK, scopeK]
     refine hN44 _ ?_
     clear hN44 N44
     refine pwp_cond (by simp only [St.eval, upd_at, Nat.reduceEqDiff, if_true, if_false, e2_1, e2_61, e2_62, e2_63, encPV, hget, Int.toNat_natCast] <;> rfl) (fun c80 => ?_) (fun c80 => ?_)
     ·skip
      have he2 := namesE_bad hn c80 hx2_1
      rw [he2] at he
      refine pwp_then fun N48 hN48 => ?_
      refine pwp_reg fun R49 hR49 => ?_
      refine pops_mv (.inr rfl) rfl (by simp only [St.eval, constSlot] <;> rfl) ?_
      refine pops_done (hR49 _ ?_)
      clear hR49 R49
      try simp only [thenK, scopeK]
      refine hN48 _ ?_
      clear hN48 N48
      refine pwp_ret ?_
      simp only [thenK, blockK, scopeK, bodyK]
      clear hN43 N43 hN40 N40 hN34 N34
      refine ⟨_, rfl, endFun sj47 ?_⟩
      try simp only [upd_at, Nat.reduceEqDiff, if_true, if_false, e2_1, e2_61, e2_62, e2_63, encPV, hget, Int.toNat_natCast]
      all_goals
       rw [he]
       simp
     ·skip
      have hnb : nameBad n = false := c80
      refine pwp_skip ?_
      try simp only [thenK, scopeK]
      refine hN43 _ ?_
      clear hN43 N43
      refine pwp_then fun N50 hN50 => ?_
      refine pwp_reg fun R51 hR51 => ?_
      refine pops_mv (.inl rfl) rfl (by simp only [St.eval, upd_at, Nat.reduceEqDiff, if_true, if_false, e2_1, e2_61, e2_62, e2_63, encPV, hget, Int.toNat_natCast] <;> rfl) ?_
      refine pops_to rfl fun M hM => ?_
      simp only [pop, St.eval, constSlot, upd_at, Nat.reduceEqDiff, if_true, if_false, popBin, binK, intK, strK, eqK, eq_self, true_and, and_true, e2_1, e2_61, e2_62, e2_63, encPV, hget, Int.toNat_natCast]
      refine hM _ _ ?_
      clear hM M
      refine pops_mv (.inl rfl) rfl (by simp only [St.eval, upd_at, Nat.reduceEqDiff, if_true, if_false, e2_1, e2_61, e2_62, e2_63, encPV, hget, Int.toNat_natCast] <;> rfl) ?_
      apply pops_and0 9 83 92 [84, 85, 86, 87, 88, 89, 90, 91] (by simp only [upd_at, Nat.reduceEqDiff, if_true, if_false, e2_1, e2_61, e2_62, e2_63, encPV, hget, Int.toNat_natCast] <;> rfl)
      ·skip
       intro g83_0 J52 hJ52
       simp only [List.take_succ_cons, List.take_zero]
       simp only [anyAt_cons, anyAt_nil] at hJ52
       have hi0 : 0 < i := by have := of_decide_eq_true g83_0; omega
       have hget2 : (pstrs x.names)[i - 1]? = some [pstr (x.names.getD (i - 1) [])] := by simp only [List.getElem?_map, getD_at (l := x.names) (j := i - 1) (by omega), Option.map_some]
       have hwp := wrap_pred (n := i) (by omega) (by omega)
       refine pops_mvg (.inl rfl) rfl rfl (by simp only [upd_at, Nat.reduceEqDiff, if_true, if_false, e2_1, e2_61, e2_62, e2_63, encPV, hget, Int.toNat_natCast, g83_0]) (by simp only [St.eval, upd_at, Nat.reduceEqDiff, if_true, if_false, e2_1, e2_61, e2_62, e2_63, encPV, hget, Int.toNat_natCast, g83_0] <;> rfl) ?_
       refine pops_do rfl rfl (by simp only [upd_at, Nat.reduceEqDiff, if_true, if_false, e2_1, e2_61, e2_62, e2_63, encPV, hget, Int.toNat_natCast, g83_0]) fun M hM => ?_
       simp only [pop, St.eval, constSlot, upd_at, Nat.reduceEqDiff, if_true, if_false, popFieldAddr, fieldOf, List.drop_succ_cons, List.drop_zero, List.getElem?_toArray, List.getElem?_cons_zero, List.getElem?_cons_succ, Tryd.underlying64, sz49, e2_1, e2_61, e2_62, e2_63, encPV, hget, Int.toNat_natCast, g83_0]
       refine ⟨⟨_, rfl⟩, hM _ _ ?_⟩
       clear hM M
       refine pops_do rfl rfl (by simp only [upd_at, Nat.reduceEqDiff, if_true, if_false, e2_1, e2_61, e2_62, e2_63, encPV, hget, Int.toNat_natCast, g83_0]) fun M hM => ?_
       simp only [pop, St.eval, constSlot, upd_at, Nat.reduceEqDiff, if_true, if_false, popLoad, loadK, isAggD, List.drop_zero, List.getElem?_toArray, List.getElem?_cons_zero, List.getElem?_cons_succ, Bool.false_eq_true, Tryd.underlying49, sz49, eq_self, true_and, and_true, e2_1, e2_61, e2_62, e2_63, encPV, hget, Int.toNat_natCast, g83_0]
       refine hM _ _ ?_
       clear hM M
       refine pops_mvg (.inl rfl) rfl rfl (by simp only [upd_at, Nat.reduceEqDiff, if_true, if_false, e2_1, e2_61, e2_62, e2_63, encPV, hget, Int.toNat_natCast, g83_0]) (by simp only [St.eval, upd_at, Nat.reduceEqDiff, if_true, if_false, e2_1, e2_61, e2_62, e2_63, encPV, hget, Int.toNat_natCast, g83_0] <;> rfl) ?_
       refine pops_do rfl rfl (by simp only [upd_at, Nat.reduceEqDiff, if_true, if_false, e2_1, e2_61, e2_62, e2_63, encPV, hget, Int.toNat_natCast, g83_0]) fun M hM => ?_
       simp only [pop, St.eval, constSlot, upd_at, Nat.reduceEqDiff, if_true, if_false, popBin, binK, intK, strK, eqK, eq_self, true_and, and_true, e2_1, e2_61, e2_62, e2_63, encPV, hget, Int.toNat_natCast, g83_0, hwp]
       refine hM _ _ ?_
       clear hM M
       refine pops_do rfl rfl (by simp only [upd_at, Nat.reduceEqDiff, if_true, if_false, e2_1, e2_61, e2_62, e2_63, encPV, hget, Int.toNat_natCast, g83_0]) fun M hM => ?_
       simp only [pop, St.eval, constSlot, upd_at, Nat.reduceEqDiff, if_true, if_false, popIndexAddr, Tryd.underlying49, sz9, eq_self, true_and, and_true, str_list, str_size, str_app, str_cut, str_get, e2_1, e2_61, e2_62, e2_63, encPV, hget, Int.toNat_natCast, g83_0, hget2, Int.toNat_natCast]
       refine ⟨Int.natCast_nonneg _, hM _ _ ?_⟩
       clear hM M
       refine pops_do rfl rfl (by simp only [upd_at, Nat.reduceEqDiff, if_true, if_false, e2_1, e2_61, e2_62, e2_63, encPV, hget, Int.toNat_natCast, g83_0]) fun M hM => ?_
       simp only [pop, St.eval, constSlot, upd_at, Nat.reduceEqDiff, if_true, if_false, popLoad, loadK, isAggD, List.drop_zero, List.getElem?_toArray, List.getElem?_cons_zero, List.getElem?_cons_succ, Bool.false_eq_true, Tryd.underlying9, sz9, eq_self, true_and, and_true, e2_1, e2_61, e2_62, e2_63, encPV, hget, Int.toNat_natCast, g83_0]
       refine hM _ _ ?_
       clear hM M
       refine pops_do rfl rfl (by simp only [upd_at, Nat.reduceEqDiff, if_true, if_false, e2_1, e2_61, e2_62, e2_63, encPV, hget, Int.toNat_natCast, g83_0]) fun M hM => ?_
       simp only [pop, St.eval, constSlot, upd_at, Nat.reduceEqDiff, if_true, if_false, popBin, binK, intK, strK, eqK, eq_self, true_and, and_true, str_list, str_size, str_app, str_cut, str_get, e2_1, e2_61, e2_62, e2_63, encPV, hget, Int.toNat_natCast, g83_0]
       refine hM _ _ ?_
       clear hM M
       refine pops_to rfl fun M hM => ?_
       simp only [pop, St.eval, constSlot, upd_at, Nat.reduceEqDiff, if_true, if_false, popIf, true_implies, false_implies, Bool.true_eq_false, Bool.false_eq_true, reduceCtorEq, true_and, and_true, e2_1, e2_61, e2_62, e2_63, encPV, hget, Int.toNat_natCast, g83_0]
       refine hM _ _ ?_
       clear hM M
       exact pops_done (hJ52 _ (wk_same (wk_any ((wk_any ((wk_any ((wk_any ((wk_any ((wk_any ((wk_any ((wk_any (Wk.refl _ _))))))))))))))))))
      ·skip
       intro g83_0 J52 hJ52
       simp only [List.take_succ_cons, List.take_zero]
       simp only [anyAt_cons, anyAt_nil] at hJ52
       refine pops_off (b := false) rfl rfl (by simp only [upd_at, Nat.reduceEqDiff, if_true, if_false, e2_1, e2_61, e2_62, e2_63, encPV, hget, Int.toNat_natCast, g83_0]) (by decide) ?_
       refine pops_off (b := false) rfl rfl (by simp only [upd_at, Nat.reduceEqDiff, if_true, if_false, e2_1, e2_61, e2_62, e2_63, encPV, hget, Int.toNat_natCast, g83_0]) (by decide) ?_
       refine pops_off (b := false) rfl rfl (by simp only [upd_at, Nat.reduceEqDiff, if_true, if_false, e2_1, e2_61, e2_62, e2_63, encPV, hget, Int.toNat_natCast, g83_0]) (by decide) ?_
       refine pops_off (b := false) rfl rfl (by simp only [upd_at, Nat.reduceEqDiff, if_true, if_false, e2_1, e2_61, e2_62, e2_63, encPV, hget, Int.toNat_natCast, g83_0]) (by decide) ?_
       refine pops_off (b := false) rfl rfl (by simp only [upd_at, Nat.reduceEqDiff, if_true, if_false, e2_1, e2_61, e2_62, e2_63, encPV, hget, Int.toNat_natCast, g83_0]) (by decide) ?_
       refine pops_off (b := false) rfl rfl (by simp only [upd_at, Nat.reduceEqDiff, if_true, if_false, e2_1, e2_61, e2_62, e2_63, encPV, hget, Int.toNat_natCast, g83_0]) (by decide) ?_
       refine pops_off (b := false) rfl rfl (by simp only [upd_at, Nat.reduceEqDiff, if_true, if_false, e2_1, e2_61, e2_62, e2_63, encPV, hget, Int.toNat_natCast, g83_0]) (by decide) ?_
       refine pops_off (b := false) rfl rfl (by simp only [upd_at, Nat.reduceEqDiff, if_true, if_false, e2_1, e2_61, e2_62, e2_63, encPV, hget, Int.toNat_natCast, g83_0]) (by decide) ?_
       refine pops_to rfl fun M hM => ?_
       simp only [pop, St.eval, constSlot, upd_at, Nat.reduceEqDiff, if_true, if_false, popIf, true_implies, false_implies, Bool.true_eq_false, Bool.false_eq_true, reduceCtorEq, true_and, and_true, e2_1, e2_61, e2_62, e2_63, encPV, hget, Int.toNat_natCast, g83_0]
       refine hM _ _ ?_
       clear hM M
       exact pops_done (hJ52 _ (wk_same (wk_any ((wk_any ((wk_any ((wk_any ((wk_any ((wk_any ((wk_any ((wk_any (Wk.refl _ _))))))))))))))))))
      simp only [List.drop_succ_cons, List.drop_zero, anyAt_cons, anyAt_nil]
      refine pops_done (hR51 _ ?_)
      clear hR51 R51
      try simp only [thenK, scopeK]
      refine hN50 _ ?_
      clear hN50 N50
      refine pwp_cond (by simp only [St.eval, upd_at, Nat.reduceEqDiff, if_true, if_false, e2_1, e2_61, e2_62, e2_63, encPV, hget, Int.toNat_natCast] <;> rfl) (fun c92 => ?_) (fun c92 => ?_)
      ·skip
       rw [leq_not] at c92
       obtain hord := ord_t c92
       have he2 := namesE_order hn hnb hord.1 (getD_at (by omega)) hord.2 hx2_1
       rw [he2] at he
       refine pwp_then fun N53 hN53 => ?_
       refine pwp_reg fun R54 hR54 => ?_
       refine pops_mv (.inr rfl) rfl (by simp only [St.eval, constSlot] <;> rfl) ?_
       refine pops_done (hR54 _ ?_)
       clear hR54 R54
       try simp only [thenK, scopeK]
       refine hN53 _ ?_
       clear hN53 N53
       refine pwp_ret ?_
       simp only [thenK, blockK, scopeK, bodyK]
       clear hN40 N40 hN34 N34
       refine ⟨_, rfl, endFun sj47 ?_⟩
       try simp only [upd_at, Nat.reduceEqDiff, if_true, if_false, e2_1, e2_61, e2_62, e2_63, encPV, hget, Int.toNat_natCast]
       all_goals
        rw [he]
        simp
      ·skip
       rw [leq_not] at c92
       obtain hord := ord_f c92
       refine pwp_skip ?_
       try simp only [blockK, thenK, scopeK]
       try simp only [thenK, scopeK]
       refine hN40 _ ?_
       clear hN40 N40
       refine pwp_reg fun R55 hR55 => ?_
       refine pops_to rfl fun M hM => ?_
       simp only [pop, St.eval, constSlot, upd_at, Nat.reduceEqDiff, if_true, if_false, popBin, binK, intK, strK, eqK, eq_self, true_and, and_true, e2_1, e2_61, e2_62, e2_63, encPV, hget, Int.toNat_natCast]
       refine hM _ _ ?_
       clear hM M
       refine pops_mv (.inl rfl) rfl (by simp only [St.eval, upd_at, Nat.reduceEqDiff, if_true, if_false, e2_1, e2_61, e2_62, e2_63, encPV, hget, Int.toNat_natCast] <;> rfl) ?_
       refine pops_done (hR55 _ ?_)
       clear hR55 R55
       try simp only [thenK, scopeK]
       exact ⟨_, by omega, _, .refl _ _, i + 1, rfl, by omega, namesE_step hn hnb hord hx2_1, sj47, by simp only [upd_at, Nat.reduceEqDiff, if_true, if_false, e2_1, e2_61, e2_62, e2_63, encPV, hget, Int.toNat_natCast], by simp only [upd_at, Nat.reduceEqDiff, if_true, if_false, e2_1, e2_61, e2_62, e2_63, encPV, hget, Int.toNat_natCast], by simp only [upd_at, Nat.reduceEqDiff, if_true, if_false, e2_1, e2_61, e2_62, e2_63, encPV, hget, Int.toNat_natCast], by simp only [upd_at, Nat.reduceEqDiff, if_true, if_false, e2_63]; rw [wrap_succ (by omega)]⟩
    ·skip
     have hi := of_decide_eq_false c64
     have hne := namesE_end hi hx2_1
     rw [hne] at he
     refine pwp_exit ?_
     try simp only [thenK, blockK, scopeK, if_true, Nat.reduceEqDiff, if_false]
     clear hN39 N39
     try simp only [blockK, scopeK, if_true, Nat.reduceEqDiff, if_false, thenK]
     try simp only [thenK, scopeK]
     refine hN34 _ ?_
     clear hN34 N34
     refine pwp_then fun N56 hN56 => ?_
     refine pwp_then fun N57 hN57 => ?_
     refine pwp_reg fun R58 hR58 => ?_
     refine pops_to rfl fun M hM => ?_
     simp only [pop, St.eval, constSlot, upd_at, Nat.reduceEqDiff, if_true, if_false, popFieldAddr, fieldOf, List.drop_succ_cons, List.drop_zero, List.getElem?_toArray, List.getElem?_cons_zero, List.getElem?_cons_succ, Tryd.underlying64, sz3, e2_1, e2_61, e2_62, e2_63, encPV]
     refine ⟨⟨_, rfl⟩, hM _ _ ?_⟩
     clear hM M
     refine pops_to rfl fun M hM => ?_
     simp only [pop, St.eval, constSlot, upd_at, Nat.reduceEqDiff, if_true, if_false, popLoad, loadK, isAggD, List.drop_zero, List.getElem?_toArray, List.getElem?_cons_zero, List.getElem?_cons_succ, Bool.false_eq_true, Tryd.underlying3, sz3, eq_self, true_and, and_true, e2_1, e2_61, e2_62, e2_63, encPV]
     refine hM _ _ ?_
     clear hM M
     refine pops_to rfl fun M hM => ?_
     simp only [pop, St.eval, constSlot, upd_at, Nat.reduceEqDiff, if_true, if_false, popBin, binK, intK, strK, eqK, eq_self, true_and, and_true, e2_1, e2_61, e2_62, e2_63, encPV]
     refine hM _ _ ?_
     clear hM M
     refine pops_mv (.inl rfl) rfl (by simp only [St.eval, upd_at, Nat.reduceEqDiff, if_true, if_false, e2_1, e2_61, e2_62, e2_63, encPV] <;> rfl) ?_
     apply pops_or0 4 97 101 [98, 99, 100] (by simp only [upd_at, Nat.reduceEqDiff, if_true, if_false, e2_1, e2_61, e2_62, e2_63, encPV] <;> rfl)
     ·skip
      intro g97_0 J59 hJ59
      simp only [List.take_succ_cons, List.take_zero]
      simp only [anyAt_cons, anyAt_nil] at hJ59
      refine pops_do rfl rfl (by simp only [upd_at, Nat.reduceEqDiff, if_true, if_false, e2_1, e2_61, e2_62, e2_63, encPV, g97_0]) fun M hM => ?_
      simp only [pop, St.eval, constSlot, upd_at, Nat.reduceEqDiff, if_true, if_false, popFieldAddr, fieldOf, List.drop_succ_cons, List.drop_zero, List.getElem?_toArray, List.getElem?_cons_zero, List.getElem?_cons_succ, Tryd.underlying64, sz3, e2_1, e2_61, e2_62, e2_63, encPV, g97_0]
      refine ⟨⟨_, rfl⟩, hM _ _ ?_⟩
      clear hM M
      refine pops_do rfl rfl (by simp only [upd_at, Nat.reduceEqDiff, if_true, if_false, e2_1, e2_61, e2_62, e2_63, encPV, g97_0]) fun M hM => ?_
      simp only [pop, St.eval, constSlot, upd_at, Nat.reduceEqDiff, if_true, if_false, popLoad, loadK, isAggD, List.drop_zero, List.getElem?_toArray, List.getElem?_cons_zero, List.getElem?_cons_succ, Bool.false_eq_true, Tryd.underlying3, sz3, eq_self, true_and, and_true, e2_1, e2_61, e2_62, e2_63, encPV, g97_0]
      refine hM _ _ ?_
      clear hM M
      refine pops_do rfl rfl (by simp only [upd_at, Nat.reduceEqDiff, if_true, if_false, e2_1, e2_61, e2_62, e2_63, encPV, g97_0]) fun M hM => ?_
      simp only [pop, St.eval, constSlot, upd_at, Nat.reduceEqDiff, if_true, if_false, popBin, binK, intK, strK, eqK, eq_self, true_and, and_true, e2_1, e2_61, e2_62, e2_63, encPV, g97_0]
      refine hM _ _ ?_
      clear hM M
      refine pops_to rfl fun M hM => ?_
      simp only [pop, St.eval, constSlot, upd_at, Nat.reduceEqDiff, if_true, if_false, popIf, true_implies, false_implies, Bool.true_eq_false, Bool.false_eq_true, reduceCtorEq, true_and, and_true, e2_1, e2_61, e2_62, e2_63, encPV, g97_0]
      refine hM _ _ ?_
      clear hM M
      exact pops_done (hJ59 _ (wk_same (wk_any ((wk_any ((wk_any (Wk.refl _ _))))))))
     ·skip
      intro g97_0 J59 hJ59
      simp only [List.take_succ_cons, List.take_zero]
      simp only [anyAt_cons, anyAt_nil] at hJ59
      refine pops_off (b := true) rfl rfl (by simp only [upd_at, Nat.reduceEqDiff, if_true, if_false, e2_1, e2_61, e2_62, e2_63, encPV, g97_0]) (by decide) ?_
      refine pops_off (b := true) rfl rfl (by simp only [upd_at, Nat.reduceEqDiff, if_true, if_false, e2_1, e2_61, e2_62, e2_63, encPV, g97_0]) (by decide) ?_
      refine pops_off (b := true) rfl rfl (by simp only [upd_at, Nat.reduceEqDiff, if_true, if_false, e2_1, e2_61, e2_62, e2_63, encPV, g97_0]) (by decide) ?_
      refine pops_to rfl fun M hM => ?_
      simp only [pop, St.eval, constSlot, upd_at, Nat.reduceEqDiff, if_true, if_false, popIf, true_implies, false_implies, Bool.true_eq_false, Bool.false_eq_true, reduceCtorEq, true_and, and_true, e2_1, e2_61, e2_62, e2_63, encPV, g97_0]
      refine hM _ _ ?_
      clear hM M
      exact pops_done (hJ59 _ (wk_same (wk_any ((wk_any ((wk_any (Wk.refl _ _))))))))
     simp only [List.drop_succ_cons, List.drop_zero, anyAt_cons, anyAt_nil]
     refine pops_done (hR58 _ ?_)
     clear hR58 R58
     try simp only [thenK, scopeK]
     refine hN57 _ ?_
     clear hN57 N57
     refine pwp_cond (by simp only [St.eval, upd_at, Nat.reduceEqDiff, if_true, if_false, e2_1, e2_61, e2_62, e2_63, encPV] <;> rfl) (fun c101 => ?_) (fun c101 => ?_)
     ·skip
      refine pwp_then fun N60 hN60 => ?_
      refine pwp_reg fun R61 hR61 => ?_
      refine pops_mv (.inr rfl) rfl (by simp only [St.eval, constSlot] <;> rfl) ?_
      refine pops_done (hR61 _ ?_)
      clear hR61 R61
      try simp only [thenK, scopeK]
      refine hN60 _ ?_
      clear hN60 N60
      refine pwp_ret ?_
      simp only [thenK, blockK, scopeK, bodyK]
      clear hN56 N56
      refine ⟨_, rfl, endFun sl2 ?_⟩
      try simp only [upd_at, Nat.reduceEqDiff, if_true, if_false, e2_1, e2_61, e2_62, e2_63, encPV]
      all_goals
       rw [range7] at c101
       rw [he, if_neg (by simp), if_pos (of_decide_eq_true c101)]
     ·skip
      refine pwp_skip ?_
      try simp only [thenK, scopeK]
      refine hN56 _ ?_
      clear hN56 N56
      refine pwp_then fun N62 hN62 => ?_
      refine pwp_reg fun R63 hR63 => ?_
      refine pops_mv (.inr rfl) rfl (by simp only [St.eval, constSlot] <;> rfl) ?_
      refine pops_done (hR63 _ ?_)
      clear hR63 R63
      try simp only [thenK, scopeK]
      refine hN62 _ ?_
      clear hN62 N62
      refine pwp_ret ?_
      simp only [thenK, blockK, scopeK, bodyK]
      refine ⟨_, rfl, endFun sl2 ?_⟩
      try simp only [upd_at, Nat.reduceEqDiff, if_true, if_false, e2_1, e2_61, e2_62, e2_63, encPV]
      all_goals
       rw [range7] at c101
       rw [he, if_neg (by simp), if_neg (of_decide_eq_false c101)]
end Go.Pw
