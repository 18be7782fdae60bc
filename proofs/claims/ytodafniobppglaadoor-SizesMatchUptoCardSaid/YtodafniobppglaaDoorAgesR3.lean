import Derived.Test.YtodafniobppglaaDoorAgesR2
namespace Go.Pw
open Go Go.RowKit Go.Proofs
set_option maxRecDepth 100000
set_option linter.unusedSimpArgs false
set_option linter.unusedVariables false

theorem uw_inj {a b : Nat} {w : List UInt8} (h1 : UW[a]? = some w) (h2 : UW[b]? = some w) : a = b := by
  have ha := (List.getElem?_eq_some_iff.1 h1).1
  have hb := (List.getElem?_eq_some_iff.1 h2).1
  have all : ∀ a < 8, ∀ b < 8, UW[a]? = UW[b]? → a = b := by decide
  exact all a ha b hb (h1.trans h2.symm)

theorem drop_tw {p : UInt8 → Bool} : ∀ (l : List UInt8), l.drop (l.takeWhile p).length = l.dropWhile p
  | [] => rfl
  | c :: l => by
    cases hc : p c with
    | true => simp only [List.takeWhile_cons, List.dropWhile_cons, hc, if_true, List.length_cons, List.drop_succ_cons]; exact drop_tw l
    | false => simp [List.takeWhile_cons, List.dropWhile_cons, hc]
theorem take_tw {p : UInt8 → Bool} : ∀ (l : List UInt8), l.take (l.takeWhile p).length = l.takeWhile p
  | [] => rfl
  | c :: l => by
    cases hc : p c with
    | true => simp only [List.takeWhile_cons, hc, if_true, List.length_cons, List.take_succ_cons]; rw [take_tw l]
    | false => simp [List.takeWhile_cons, hc]
theorem len_tw {p : UInt8 → Bool} (l : List UInt8) : (l.takeWhile p).length + (l.dropWhile p).length = l.length := by
  rw [← List.length_append, List.takeWhile_append_dropWhile]
theorem at_rest {t : List UInt8} {j : Nat} (hj : j < (t.dropWhile digitB).length) : t[(t.takeWhile digitB).length + j]? = some ((t.dropWhile digitB).getD j 0) := by
  rw [← getD_some hj, ← drop_tw, List.getElem?_drop]
theorem cut_rest (t : List UInt8) (j : Nat) : (t.take ((t.takeWhile digitB).length + j)).drop (t.takeWhile digitB).length = (t.dropWhile digitB).take j := by
  rw [← drop_tw (p := digitB) t, List.drop_take]; congr 1; omega
theorem drop_rest (t : List UInt8) (j : Nat) : t.drop ((t.takeWhile digitB).length + j) = (t.dropWhile digitB).drop j := by
  rw [← drop_tw (p := digitB) t, List.drop_drop]
theorem lw_eq {R : List UInt8} {n T j : Nat} (hdl : n + R.length = T) :
    ((decide (((n + j : Nat) : Int) < ((T : Nat) : Int)) && decide (((R.getD j 0).toNat : Int) ≥ 97)) && decide (((R.getD j 0).toNat : Int) ≤ 122)) = (decide ((j : Int) < ((R.length : Nat) : Int)) && lowB (R.getD j 0)) := by
  rw [Bool.eq_iff_iff]
  simp only [Bool.and_eq_true, decide_eq_true_eq, lowB]
  omega
theorem nb_ref {t : List UInt8} (ht : t ≠ []) : ((((((t.takeWhile digitB).length : Nat) : Int) == 0) || (decide ((((t.takeWhile digitB).length : Nat) : Int) > 1) && (((t.getD 0 0).toNat : Int) == 48)))) = numBad (t.takeWhile digitB) := by
  rw [← numBad_prog]
  cases t with
  | nil => exact absurd rfl ht
  | cons c t =>
    cases hc : digitB c with
    | false => simp [List.takeWhile_cons, hc]
    | true =>
      simp only [List.takeWhile_cons, hc, if_true, List.length_cons, List.getD_cons_zero]
      have e : ((((t.takeWhile digitB).length + 1 : Nat) : Int) == 0) = ((c :: t.takeWhile digitB) == []) := by
        rw [Bool.eq_iff_iff]
        simp
        omega
      rw [e]
theorem ref_bad {s t : List UInt8} {f next tot : Nat} {z : Int} (ht : t ≠ []) (hn : next ≤ 8) (hz : ixOK ((t.dropWhile digitB).takeWhile lowB) z) (h : (numBad (t.takeWhile digitB) || decide (z ≤ (next : Int) - 1)) = true)
    (hg : ageGo f t next tot = ageGo (s.length + 1) s 0 0) (hs : s ≠ []) : ageR s = (0, 9) := by
  refine age_none (hg ▸ ?_) hs
  cases hb : numBad (t.takeWhile digitB) with
  | true => exact (age_bad1 ht hb).symm
  | false =>
    rw [hb, Bool.false_or, decide_eq_true_eq] at h
    refine (age_bad2 hn ht fun k hk hw => ?_).symm
    rcases hz with ⟨_, h0⟩ | ⟨q, hq, hqw⟩
    · exact h0 k hw
    · have hq8 := (List.getElem?_eq_some_iff.1 hqw).1
      have hk8 := (List.getElem?_eq_some_iff.1 hw).1
      have : q = k := uw_inj hqw hw
      omega
theorem ref_ok {d w : List UInt8} {next : Nat} {z : Int} (hz : ixOK w z) (h : (numBad d || decide (z ≤ (next : Int) - 1)) = false) : numBad d = false ∧ ∃ q : Nat, z = q ∧ UW[q]? = some w ∧ next ≤ q := by
  simp only [Bool.or_eq_false_iff, decide_eq_false_iff_not] at h
  refine ⟨h.1, ?_⟩
  rcases hz with ⟨h1, _⟩ | ⟨q, h1, h2⟩
  · omega
  · exact ⟨q, h1, h2, by omega⟩
theorem pu_num {d : List UInt8} {u : Nat} (hu : 0 < u) (hub : u ≤ 604800000000000) : (puB d || decide (((puV d : Nat) : Int) > ((4611686018427387904 / u : Nat) : Int))) = decide (4611686018427387904 / u < numV d) := by
  have hq : 4611686018427387904 / u ≤ 4611686018427387904 := Nat.div_le_self _ _
  generalize 4611686018427387904 / u = q at hq
  rw [Bool.eq_iff_iff]
  unfold puB puV numV
  simp only [Bool.or_eq_true, decide_eq_true_eq, show MOST = 4611686018427387904 from rfl]
  split <;> split <;> omega
theorem times_over {n u tot : Nat} (h : decide (4611686018427387904 / u < n) = true) : addV tot (timesV n u) = 4611686018427387905 := by
  rw [timesV, if_pos (of_decide_eq_true h), addV, if_pos (by omega)]
theorem times_fit {d : List UInt8} {u : Nat} (hu : 0 < u) (h : decide (4611686018427387904 / u < numV d) = false) : timesV (numV d) u = numV d * u ∧ numV d * u ≤ 4611686018427387904 ∧ puV d = numV d := by
  have h1 := of_decide_eq_false h
  refine ⟨by rw [timesV, if_neg h1], times_le h1, ?_⟩
  have hq : 4611686018427387904 / u ≤ 4611686018427387904 := Nat.div_le_self _ _
  generalize 4611686018427387904 / u = q at hq h1
  have e : numV d = if decV d ≤ 4611686018427387904 then decV d else 4611686018427387905 := rfl
  rw [e] at h1 ⊢
  unfold puV
  by_cases h2 : decV d ≤ 4611686018427387904
  · rw [if_pos h2] at h1 ⊢
    rw [if_neg (by omega)]
  · rw [if_neg h2] at h1
    omega
theorem go_step2 {f : Nat} {t : List UInt8} {next tot k : Nat} (hf : t.length < f) (ht : t ≠ []) (hb : numBad (t.takeWhile digitB) = false) (hk : UW[k]? = some ((t.dropWhile digitB).takeWhile lowB)) (hkn : next ≤ k) :
    ageGo f t next tot = ageGo (f - 1) ((t.dropWhile digitB).dropWhile lowB) (k + 1) (addV tot (timesV (numV (t.takeWhile digitB)) (US.getD k 1))) := by
  obtain ⟨f', rfl⟩ : ∃ f', f = f' + 1 := ⟨f - 1, by omega⟩
  exact age_round2 hf ht hb hk hkn
theorem len_step2 {t : List UInt8} (hb : numBad (t.takeWhile digitB) = false) : ((t.dropWhile digitB).dropWhile lowB).length < t.length :=
  Nat.lt_of_le_of_lt (dropWhile_len _) (dropWhile_lt (by intro e; rw [e] at hb; cases hb))
theorem quo_u64 (a u : Nat) (ha : a < 18446744073709551616) : IntKind.u64.wrap (Int.tdiv (a : Int) (u : Int)) = ((a / u : Nat) : Int) := by
  rw [show Int.tdiv (a : Int) (u : Int) = ((a / u : Nat) : Int) from rfl]
  have h := Nat.div_le_self a u
  generalize a / u = q at h
  exact wrap_u64 (by omega) (by omega)
theorem add_ref {tot sum n x : Nat} (htv : n = x) (hs : tot ≤ 4611686018427387904 → sum = tot) (h : sum + x ≤ 4611686018427387904) (ht : tot ≤ 4611686018427387905) :
    decide (4611686018427387904 < addV tot n) = decide (4611686018427387904 < tot) ∧ (addV tot n ≤ 4611686018427387904 → sum + x = addV tot n) := by
  subst htv
  unfold addV
  by_cases h1 : tot ≤ 4611686018427387904
  · have := hs h1
    rw [if_neg (by show ¬ (4611686018427387904 < tot ∨ 4611686018427387904 - tot < n); omega)]
    exact ⟨decide_eq_decide.2 (by omega), fun _ => by omega⟩
  · rw [if_pos (by show 4611686018427387904 < tot ∨ 4611686018427387904 - tot < n; omega)]
    exact ⟨decide_eq_decide.2 (by show 4611686018427387904 < 4611686018427387904 + 1 ↔ _; omega), fun h2 => by have : 4611686018427387904 + 1 ≤ 4611686018427387904 := h2; omega⟩
theorem usr_at {k : Nat} (h : k < 8) : USR[k]? = some [pint (US.getD k 1 : Nat)] := by
  match k, h with
  | 0, _ => rfl
  | 1, _ => rfl
  | 2, _ => rfl
  | 3, _ => rfl
  | 4, _ => rfl
  | 5, _ => rfl
  | 6, _ => rfl
  | 7, _ => rfl
theorem nm20 : (Tryd.f20.name == "runtime.NumGoroutine") = false := by kernel_rfl
set_option maxHeartbeats 4000000 in
theorem parseAgeRef_fun (W0 : World) (hE : HasErr W0) (s : List UInt8) (hs : s.length ≤ 281474976710656) :
  PFun Tryd.prog W0 20 [.one (pstr s)] (.tup [.one (pint (ageR s).1), .one (pint (ageR s).2)]) := by
 intro h
 refine pcalls1 (n := 106) Tryd.func20 rfl nm20 rfl fun hb => ?_
 refine pwp_then fun N1 hN1 => ?_
 refine pwp_reg fun R2 hR2 => ?_
 refine pops_mv (.inr rfl) rfl (by simp only [St.eval, constSlot] <;> rfl) ?_
 refine pops_mv (.inr rfl) rfl (by simp only [St.eval, constSlot] <;> rfl) ?_
 refine pops_done (hR2 _ ?_)
 clear hR2 R2
 try simp only [thenK, scopeK]
 refine hN1 _ ?_
 clear hN1 N1
 refine pwp_then fun N3 hN3 => ?_
 refine pwp_then fun N4 hN4 => ?_
 refine pwp_reg fun R5 hR5 => ?_
 refine pops_mv (.inl rfl) rfl (by simp only [St.eval, upd_at, Nat.reduceEqDiff, if_true, if_false] <;> rfl) ?_
 refine pops_to rfl fun M hM => ?_
 simp only [pop, St.eval, constSlot, upd_at, Nat.reduceEqDiff, if_true, if_false, popBin, binK, intK, strK, eqK, Tryd.underlying9, isPtr, eq_self, true_and, and_true, str_list, str_size, str_app, str_cut, str_get]
 refine hM _ _ ?_
 clear hM M
 refine pops_done (hR5 _ ?_)
 clear hR5 R5
 try simp only [thenK, scopeK]
 refine hN4 _ ?_
 clear hN4 N4
 refine pwp_cond (by simp only [St.eval, upd_at, Nat.reduceEqDiff, if_true, if_false] <;> rfl) (fun c15 => ?_) (fun c15 => ?_)
 ·skip
  have hs0 : s = [] := by simpa using c15
  refine pwp_then fun N6 hN6 => ?_
  refine pwp_reg fun R7 hR7 => ?_
  refine pops_mv (.inr rfl) rfl (by simp only [St.eval, constSlot] <;> rfl) ?_
  refine pops_mv (.inr rfl) rfl (by simp only [St.eval, constSlot] <;> rfl) ?_
  refine pops_done (hR7 _ ?_)
  clear hR7 R7
  try simp only [thenK, scopeK]
  refine hN6 _ ?_
  clear hN6 N6
  refine pwp_ret ?_
  simp only [thenK, blockK, scopeK, bodyK]
  clear hN3 N3
  refine ⟨_, rfl, endFun (Same.refl _) ?_⟩
  try simp only [upd_at, Nat.reduceEqDiff, if_true, if_false]
  all_goals
   rw [hs0]; rfl
 ·skip
  have hs0 : s ≠ [] := by simpa using c15
  refine pwp_skip ?_
  try simp only [thenK, scopeK]
  refine hN3 _ ?_
  clear hN3 N3
  refine pwp_then fun N8 hN8 => ?_
  refine pwp_reg fun R9 hR9 => ?_
  refine pops_to rfl fun M hM => ?_
  simp only [pop, St.eval, constSlot, upd_at, Nat.reduceEqDiff, if_true, if_false, popCall, List.toList_toArray, List.map_cons, List.map_nil, svs, List.mapM_cons, List.mapM_nil, Option.bind_eq_bind, Option.bind_some, Option.pure_def, List.append_nil, List.cons_append, List.nil_append, str_size]
  refine PFun.use (ages_fun W0) fun h1 s1 => hM _ _ ?_
  replace s1 := Same.trans (Same.refl _) s1
  clear hM M
  refine pops_mv (.inl rfl) rfl (by simp only [St.eval, upd_at, Nat.reduceEqDiff, if_true, if_false] <;> rfl) ?_
  refine pops_to rfl fun M hM => ?_
  simp only [pop, St.eval, constSlot, upd_at, Nat.reduceEqDiff, if_true, if_false, List.getElem?_toArray, List.getElem?_cons_zero, List.getElem?_cons_succ]
  refine hM _ _ ?_
  clear hM M
  refine pops_to rfl fun M hM => ?_
  simp only [pop, St.eval, constSlot, upd_at, Nat.reduceEqDiff, if_true, if_false, List.getElem?_toArray, List.getElem?_cons_zero, List.getElem?_cons_succ]
  refine hM _ _ ?_
  clear hM M
  refine pops_mv (.inr rfl) rfl (by simp only [St.eval, upd_at, Nat.reduceEqDiff, if_true, if_false] <;> rfl) ?_
  refine pops_mv (.inr rfl) rfl (by simp only [St.eval, upd_at, Nat.reduceEqDiff, if_true, if_false] <;> rfl) ?_
  refine pops_done (hR9 _ ?_)
  clear hR9 R9
  try simp only [thenK, scopeK]
  refine hN8 _ ?_
  clear hN8 N8
  refine pwp_then fun N10 hN10 => ?_
  refine pwp_reg fun R11 hR11 => ?_
  refine pops_mv (.inr rfl) rfl (by simp only [St.eval, constSlot] <;> rfl) ?_
  refine pops_mv (.inr rfl) rfl (by simp only [St.eval, constSlot] <;> rfl) ?_
  refine pops_mv (.inr rfl) rfl (by simp only [St.eval, constSlot] <;> rfl) ?_
  refine pops_done (hR11 _ ?_)
  clear hR11 R11
  try simp only [thenK, scopeK]
  refine hN10 _ ?_
  clear hN10 N10
  refine pwp_then fun N12 hN12 => ?_
  refine pwp_block ?_
  refine pwp_loop (fun k σ => ∃ (t : List UInt8), ∃ (next : Nat), ∃ (tot : Nat), ∃ (sum : Nat), ∃ (fu : Nat), (k = fu) ∧ (t.length < fu) ∧ (next ≤ 8) ∧ (tot ≤ 4611686018427387905) ∧ (ageGo fu t next tot = ageGo (s.length + 1) s 0 0) ∧ (t.length ≤ s.length) ∧ (tot ≤ 4611686018427387904 → sum = tot) ∧ (sum ≤ 4611686018427387904) ∧ (Same h σ.hp) ∧ (σ.env 0 = .sv (.one (pstr t))) ∧ (σ.env 4 = .sv (.one (.ro true 1 UWR))) ∧ (σ.env 5 = .sv (.one (.ro true 1 USR))) ∧ (σ.env 6 = .sv (.one (pint ((next : Int) - 1)))) ∧ (σ.env 7 = .sv (.one (.val (.int .u64 (sum : Nat))))) ∧ (σ.env 8 = .sv (.one (pbool (decide (4611686018427387904 < tot)))))) _ ⟨_, .refl _ _, s, 0, 0, 0, s.length + 1, rfl, ?_⟩ ?_
  · exact ⟨Nat.lt_succ_self _, Nat.zero_le _, Nat.zero_le _, rfl, Nat.le_refl _, fun _ => rfl, Nat.zero_le _, s1, by simp only [upd_at, Nat.reduceEqDiff, if_true, if_false], by simp only [upd_at, Nat.reduceEqDiff, if_true, if_false], by simp only [upd_at, Nat.reduceEqDiff, if_true, if_false], by simp only [upd_at, Nat.reduceEqDiff, if_true, if_false]; rfl, by simp only [upd_at, Nat.reduceEqDiff, if_true, if_false]; rfl, by simp only [upd_at, Nat.reduceEqDiff, if_true, if_false]; rfl⟩
  ·rintro k ⟨e, hp0⟩ ⟨t, next, tot, sum, fu, hk0, hx0_0, hx0_1, hx0_2, hx0_3, hx0_4, hx0_5, hx0_6, sl0, e0_0, e0_4, e0_5, e0_6, e0_7, e0_8⟩
   simp only at sl0 e0_0 e0_4 e0_5 e0_6 e0_7 e0_8
   refine pwp_then fun N13 hN13 => ?_
   refine pwp_then fun N14 hN14 => ?_
   refine pwp_reg fun R15 hR15 => ?_
   refine pops_mv (.inl rfl) rfl (by simp only [St.eval, upd_at, Nat.reduceEqDiff, if_true, if_false, e0_0, e0_4, e0_5, e0_6, e0_7, e0_8] <;> rfl) ?_
   refine pops_to rfl fun M hM => ?_
   simp only [pop, St.eval, constSlot, upd_at, Nat.reduceEqDiff, if_true, if_false, popBin, binK, intK, strK, eqK, Tryd.underlying9, isPtr, eq_self, true_and, and_true, str_list, str_size, str_app, str_cut, str_get, e0_0, e0_4, e0_5, e0_6, e0_7, e0_8]
   refine hM _ _ ?_
   clear hM M
   refine pops_done (hR15 _ ?_)
   clear hR15 R15
   try simp only [thenK, scopeK]
   refine hN14 _ ?_
   clear hN14 N14
   refine pwp_cond (by simp only [St.eval, upd_at, Nat.reduceEqDiff, if_true, if_false, e0_0, e0_4, e0_5, e0_6, e0_7, e0_8] <;> rfl) (fun c21 => ?_) (fun c21 => ?_)
   ·skip
    have hne : t ≠ [] := by simpa using c21
    have hdl := len_tw (p := digitB) t
    have hx00 := getD_some (List.length_pos_iff.2 hne)
    have htk := take_tw (p := digitB) t
    have hw27 : IntKind.i64.wrap (((t.length : Nat) : Int) - (((t.dropWhile digitB).length : Nat) : Int)) = (((t.takeWhile digitB).length : Nat) : Int) := by rw [wrap_i64 (by omega) (by omega)]; omega
    refine pwp_skip ?_
    try simp only [thenK, scopeK]
    refine hN13 _ ?_
    clear hN13 N13
    refine pwp_block ?_
    refine pwp_then fun N16 hN16 => ?_
    refine pwp_reg fun R17 hR17 => ?_
    refine pops_mv (.inl rfl) rfl (by simp only [St.eval, upd_at, Nat.reduceEqDiff, if_true, if_false, e0_0, e0_4, e0_5, e0_6, e0_7, e0_8] <;> rfl) ?_
    refine pops_to rfl fun M hM => ?_
    simp only [pop, St.eval, constSlot, upd_at, Nat.reduceEqDiff, if_true, if_false, popCall, List.toList_toArray, List.map_cons, List.map_nil, popBuiltin, popLen, lenOfSlot, List.length_map, Tryd.underlying9, eq_self, true_and, and_true, str_list, str_size, str_app, str_cut, str_get, e0_0, e0_4, e0_5, e0_6, e0_7, e0_8]
    refine hM _ _ ?_
    clear hM M
    refine pops_mv (.inl rfl) rfl (by simp only [St.eval, upd_at, Nat.reduceEqDiff, if_true, if_false, e0_0, e0_4, e0_5, e0_6, e0_7, e0_8] <;> rfl) ?_
    refine pops_to rfl fun M hM => ?_
    simp only [pop, St.eval, constSlot, upd_at, Nat.reduceEqDiff, if_true, if_false, popCall, List.toList_toArray, List.map_cons, List.map_nil, svs, List.mapM_cons, List.mapM_nil, Option.bind_eq_bind, Option.bind_some, Option.pure_def, List.append_nil, List.cons_append, List.nil_append, str_size, e0_0, e0_4, e0_5, e0_6, e0_7, e0_8]
    refine PFun.use (trimLeft_fun W0 t) fun h2 s2 => hM _ _ ?_
    replace s2 := Same.trans sl0 s2
    clear hM M
    refine pops_to rfl fun M hM => ?_
    simp only [pop, St.eval, constSlot, upd_at, Nat.reduceEqDiff, if_true, if_false, popCall, List.toList_toArray, List.map_cons, List.map_nil, popBuiltin, popLen, lenOfSlot, List.length_map, Tryd.underlying9, eq_self, true_and, and_true, str_list, str_size, str_app, str_cut, str_get, e0_0, e0_4, e0_5, e0_6, e0_7, e0_8]
    refine hM _ _ ?_
    clear hM M
    refine pops_to rfl fun M hM => ?_
    simp only [pop, St.eval, constSlot, upd_at, Nat.reduceEqDiff, if_true, if_false, popBin, binK, intK, strK, eqK, eq_self, true_and, and_true, e0_0, e0_4, e0_5, e0_6, e0_7, e0_8, hw27]
    refine hM _ _ ?_
    clear hM M
    refine pops_mv (.inr rfl) rfl (by simp only [St.eval, upd_at, Nat.reduceEqDiff, if_true, if_false, e0_0, e0_4, e0_5, e0_6, e0_7, e0_8] <;> rfl) ?_
    refine pops_done (hR17 _ ?_)
    clear hR17 R17
    try simp only [thenK, scopeK]
    refine hN16 _ ?_
    clear hN16 N16
    refine pwp_then fun N18 hN18 => ?_
    refine pwp_reg fun R19 hR19 => ?_
    refine pops_mv (.inl rfl) rfl (by simp only [St.eval, upd_at, Nat.reduceEqDiff, if_true, if_false, e0_0, e0_4, e0_5, e0_6, e0_7, e0_8] <;> rfl) ?_
    refine pops_mv (.inr rfl) rfl (by simp only [St.eval, upd_at, Nat.reduceEqDiff, if_true, if_false, e0_0, e0_4, e0_5, e0_6, e0_7, e0_8] <;> rfl) ?_
    refine pops_done (hR19 _ ?_)
    clear hR19 R19
    try simp only [thenK, scopeK]
    refine hN18 _ ?_
    clear hN18 N18
    refine pwp_then fun N20 hN20 => ?_
    refine pwp_block ?_
    refine pwp_loop (fun k σ => ∃ (j : Nat), (k = (t.dropWhile digitB).length - j) ∧ (j ≤ (t.dropWhile digitB).length) ∧ (∀ c ∈ (t.dropWhile digitB).take j, lowB c = true) ∧ (Same h σ.hp) ∧ (σ.env 0 = .sv (.one (pstr t))) ∧ (σ.env 4 = .sv (.one (.ro true 1 UWR))) ∧ (σ.env 5 = .sv (.one (.ro true 1 USR))) ∧ (σ.env 6 = .sv (.one (pint ((next : Int) - 1)))) ∧ (σ.env 7 = .sv (.one (.val (.int .u64 (sum : Nat))))) ∧ (σ.env 8 = .sv (.one (pbool (decide (4611686018427387904 < tot))))) ∧ (σ.env 9 = .sv (.one (pint ((t.takeWhile digitB).length : Nat)))) ∧ (σ.env 10 = .sv (.one (pint (((t.takeWhile digitB).length + j : Nat) : Int))))) _ ⟨_, .refl _ _, 0, rfl, ?_⟩ ?_
    · exact ⟨Nat.zero_le _, by simp, s2, by simp only [upd_at, Nat.reduceEqDiff, if_true, if_false, e0_0, e0_4, e0_5, e0_6, e0_7, e0_8], by simp only [upd_at, Nat.reduceEqDiff, if_true, if_false, e0_0, e0_4, e0_5, e0_6, e0_7, e0_8], by simp only [upd_at, Nat.reduceEqDiff, if_true, if_false, e0_0, e0_4, e0_5, e0_6, e0_7, e0_8], by simp only [upd_at, Nat.reduceEqDiff, if_true, if_false, e0_0, e0_4, e0_5, e0_6, e0_7, e0_8], by simp only [upd_at, Nat.reduceEqDiff, if_true, if_false, e0_0, e0_4, e0_5, e0_6, e0_7, e0_8], by simp only [upd_at, Nat.reduceEqDiff, if_true, if_false, e0_0, e0_4, e0_5, e0_6, e0_7, e0_8], by simp only [upd_at, Nat.reduceEqDiff, if_true, if_false, e0_0, e0_4, e0_5, e0_6, e0_7, e0_8], by simp only [upd_at, Nat.reduceEqDiff, if_true, if_false]; rfl⟩
    ·rintro k ⟨e, hp1⟩ ⟨j, hk1, hx1_0, hx1_1, sl1, e1_0, e1_4, e1_5, e1_6, e1_7, e1_8, e1_9, e1_10⟩
     simp only at sl1 e1_0 e1_4 e1_5 e1_6 e1_7 e1_8 e1_9 e1_10
     refine pwp_then fun N21 hN21 => ?_
     refine pwp_then fun N22 hN22 => ?_
     refine pwp_reg fun R23 hR23 => ?_
     refine pops_mv (.inl rfl) rfl (by simp only [St.eval, upd_at, Nat.reduceEqDiff, if_true, if_false, e1_0, e1_4, e1_5, e1_6, e1_7, e1_8, e1_9, e1_10] <;> rfl) ?_
     refine pops_mv (.inl rfl) rfl (by simp only [St.eval, upd_at, Nat.reduceEqDiff, if_true, if_false, e1_0, e1_4, e1_5, e1_6, e1_7, e1_8, e1_9, e1_10] <;> rfl) ?_
     refine pops_to rfl fun M hM => ?_
     simp only [pop, St.eval, constSlot, upd_at, Nat.reduceEqDiff, if_true, if_false, popCall, List.toList_toArray, List.map_cons, List.map_nil, popBuiltin, popLen, lenOfSlot, List.length_map, Tryd.underlying9, eq_self, true_and, and_true, str_list, str_size, str_app, str_cut, str_get, e1_0, e1_4, e1_5, e1_6, e1_7, e1_8, e1_9, e1_10]
     refine hM _ _ ?_
     clear hM M
     refine pops_to rfl fun M hM => ?_
     simp only [pop, St.eval, constSlot, upd_at, Nat.reduceEqDiff, if_true, if_false, popBin, binK, intK, strK, eqK, eq_self, true_and, and_true, e1_0, e1_4, e1_5, e1_6, e1_7, e1_8, e1_9, e1_10]
     refine hM _ _ ?_
     clear hM M
     refine pops_mv (.inl rfl) rfl (by simp only [St.eval, upd_at, Nat.reduceEqDiff, if_true, if_false, e1_0, e1_4, e1_5, e1_6, e1_7, e1_8, e1_9, e1_10] <;> rfl) ?_
     apply pops_and0 5 33 38 [34, 35, 36, 37] (by simp only [upd_at, Nat.reduceEqDiff, if_true, if_false, e1_0, e1_4, e1_5, e1_6, e1_7, e1_8, e1_9, e1_10] <;> rfl)
     ·skip
      intro g33_0 J24 hJ24
      simp only [List.take_succ_cons, List.take_zero]
      simp only [anyAt_cons, anyAt_nil] at hJ24
      have hj : j < (t.dropWhile digitB).length := by have := of_decide_eq_true g33_0; omega
      have hx := at_rest hj
      refine pops_mvg (.inl rfl) rfl rfl (by simp only [upd_at, Nat.reduceEqDiff, if_true, if_false, e1_0, e1_4, e1_5, e1_6, e1_7, e1_8, e1_9, e1_10, g33_0]) (by simp only [St.eval, upd_at, Nat.reduceEqDiff, if_true, if_false, e1_0, e1_4, e1_5, e1_6, e1_7, e1_8, e1_9, e1_10, g33_0] <;> rfl) ?_
      refine pops_mvg (.inl rfl) rfl rfl (by simp only [upd_at, Nat.reduceEqDiff, if_true, if_false, e1_0, e1_4, e1_5, e1_6, e1_7, e1_8, e1_9, e1_10, g33_0]) (by simp only [St.eval, upd_at, Nat.reduceEqDiff, if_true, if_false, e1_0, e1_4, e1_5, e1_6, e1_7, e1_8, e1_9, e1_10, g33_0] <;> rfl) ?_
      refine pops_do rfl rfl (by simp only [upd_at, Nat.reduceEqDiff, if_true, if_false, e1_0, e1_4, e1_5, e1_6, e1_7, e1_8, e1_9, e1_10, g33_0]) fun M hM => ?_
      simp only [pop, St.eval, constSlot, upd_at, Nat.reduceEqDiff, if_true, if_false, popIndex, partK, Tryd.underlying9, eq_self, true_and, and_true, str_list, str_size, str_app, str_cut, str_get, e1_0, e1_4, e1_5, e1_6, e1_7, e1_8, e1_9, e1_10, g33_0, hx, Int.toNat_natCast]
      refine ⟨Int.natCast_nonneg _, hM _ _ ?_⟩
      clear hM M
      refine pops_do rfl rfl (by simp only [upd_at, Nat.reduceEqDiff, if_true, if_false, e1_0, e1_4, e1_5, e1_6, e1_7, e1_8, e1_9, e1_10, g33_0]) fun M hM => ?_
      simp only [pop, St.eval, constSlot, upd_at, Nat.reduceEqDiff, if_true, if_false, popBin, binK, intK, strK, eqK, eq_self, true_and, and_true, e1_0, e1_4, e1_5, e1_6, e1_7, e1_8, e1_9, e1_10, g33_0]
      refine hM _ _ ?_
      clear hM M
      refine pops_to rfl fun M hM => ?_
      simp only [pop, St.eval, constSlot, upd_at, Nat.reduceEqDiff, if_true, if_false, popIf, true_implies, false_implies, Bool.true_eq_false, Bool.false_eq_true, reduceCtorEq, true_and, and_true, e1_0, e1_4, e1_5, e1_6, e1_7, e1_8, e1_9, e1_10, g33_0]
      refine hM _ _ ?_
      clear hM M
      exact pops_done (hJ24 _ (wk_same (wk_any ((wk_any ((wk_any ((wk_any (Wk.refl _ _))))))))))
     ·skip
      intro g33_0 J24 hJ24
      simp only [List.take_succ_cons, List.take_zero]
      simp only [anyAt_cons, anyAt_nil] at hJ24
      refine pops_off (b := false) rfl rfl (by simp only [upd_at, Nat.reduceEqDiff, if_true, if_false, e1_0, e1_4, e1_5, e1_6, e1_7, e1_8, e1_9, e1_10, g33_0]) (by decide) ?_
      refine pops_off (b := false) rfl rfl (by simp only [upd_at, Nat.reduceEqDiff, if_true, if_false, e1_0, e1_4, e1_5, e1_6, e1_7, e1_8, e1_9, e1_10, g33_0]) (by decide) ?_
      refine pops_off (b := false) rfl rfl (by simp only [upd_at, Nat.reduceEqDiff, if_true, if_false, e1_0, e1_4, e1_5, e1_6, e1_7, e1_8, e1_9, e1_10, g33_0]) (by decide) ?_
      refine pops_off (b := false) rfl rfl (by simp only [upd_at, Nat.reduceEqDiff, if_true, if_false, e1_0, e1_4, e1_5, e1_6, e1_7, e1_8, e1_9, e1_10, g33_0]) (by decide) ?_
      refine pops_to rfl fun M hM => ?_
      simp only [pop, St.eval, constSlot, upd_at, Nat.reduceEqDiff, if_true, if_false, popIf, true_implies, false_implies, Bool.true_eq_false, Bool.false_eq_true, reduceCtorEq, true_and, and_true, e1_0, e1_4, e1_5, e1_6, e1_7, e1_8, e1_9, e1_10, g33_0]
      refine hM _ _ ?_
      clear hM M
      exact pops_done (hJ24 _ (wk_same (wk_any ((wk_any ((wk_any ((wk_any (Wk.refl _ _))))))))))
     simp only [List.drop_succ_cons, List.drop_zero, anyAt_cons, anyAt_nil]
     refine pops_mv (.inl rfl) rfl (by simp only [St.eval, upd_at, Nat.reduceEqDiff, if_true, if_false, e1_0, e1_4, e1_5, e1_6, e1_7, e1_8, e1_9, e1_10] <;> rfl) ?_
     apply pops_and0 5 39 44 [40, 41, 42, 43] (by simp only [upd_at, Nat.reduceEqDiff, if_true, if_false, e1_0, e1_4, e1_5, e1_6, e1_7, e1_8, e1_9, e1_10] <;> rfl)
     ·skip
      intro g39_0 J25 hJ25
      simp only [List.take_succ_cons, List.take_zero]
      simp only [anyAt_cons, anyAt_nil] at hJ25
      have hj : j < (t.dropWhile digitB).length := by have h39 := g39_0; simp only [Bool.and_eq_true, decide_eq_true_eq] at h39; omega
      have hx := at_rest hj
      refine pops_mvg (.inl rfl) rfl rfl (by simp only [upd_at, Nat.reduceEqDiff, if_true, if_false, e1_0, e1_4, e1_5, e1_6, e1_7, e1_8, e1_9, e1_10, g39_0]) (by simp only [St.eval, upd_at, Nat.reduceEqDiff, if_true, if_false, e1_0, e1_4, e1_5, e1_6, e1_7, e1_8, e1_9, e1_10, g39_0] <;> rfl) ?_
      refine pops_mvg (.inl rfl) rfl rfl (by simp only [upd_at, Nat.reduceEqDiff, if_true, if_false, e1_0, e1_4, e1_5, e1_6, e1_7, e1_8, e1_9, e1_10, g39_0]) (by simp only [St.eval, upd_at, Nat.reduceEqDiff, if_true, if_false, e1_0, e1_4, e1_5, e1_6, e1_7, e1_8, e1_9, e1_10, g39_0] <;> rfl) ?_
      refine pops_do rfl rfl (by simp only [upd_at, Nat.reduceEqDiff, if_true, if_false, e1_0, e1_4, e1_5, e1_6, e1_7, e1_8, e1_9, e1_10, g39_0]) fun M hM => ?_
      simp only [pop, St.eval, constSlot, upd_at, Nat.reduceEqDiff, if_true, if_false, popIndex, partK, Tryd.underlying9, eq_self, true_and, and_true, str_list, str_size, str_app, str_cut, str_get, e1_0, e1_4, e1_5, e1_6, e1_7, e1_8, e1_9, e1_10, g39_0, hx, Int.toNat_natCast]
      refine ⟨Int.natCast_nonneg _, hM _ _ ?_⟩
      clear hM M
      refine pops_do rfl rfl (by simp only [upd_at, Nat.reduceEqDiff, if_true, if_false, e1_0, e1_4, e1_5, e1_6, e1_7, e1_8, e1_9, e1_10, g39_0]) fun M hM => ?_
      simp only [pop, St.eval, constSlot, upd_at, Nat.reduceEqDiff, if_true, if_false, popBin, binK, intK, strK, eqK, eq_self, true_and, and_true, e1_0, e1_4, e1_5, e1_6, e1_7, e1_8, e1_9, e1_10, g39_0]
      refine hM _ _ ?_
      clear hM M
      refine pops_to rfl fun M hM => ?_
      simp only [pop, St.eval, constSlot, upd_at, Nat.reduceEqDiff, if_true, if_false, popIf, true_implies, false_implies, Bool.true_eq_false, Bool.false_eq_true, reduceCtorEq, true_and, and_true, e1_0, e1_4, e1_5, e1_6, e1_7, e1_8, e1_9, e1_10, g39_0]
      refine hM _ _ ?_
      clear hM M
      exact pops_done (hJ25 _ (wk_same (wk_any ((wk_any ((wk_any ((wk_any (Wk.refl _ _))))))))))
     ·skip
      intro g39_0 J25 hJ25
      simp only [List.take_succ_cons, List.take_zero]
      simp only [anyAt_cons, anyAt_nil] at hJ25
      refine pops_off (b := false) rfl rfl (by simp only [upd_at, Nat.reduceEqDiff, if_true, if_false, e1_0, e1_4, e1_5, e1_6, e1_7, e1_8, e1_9, e1_10, g39_0]) (by decide) ?_
      refine pops_off (b := false) rfl rfl (by simp only [upd_at, Nat.reduceEqDiff, if_true, if_false, e1_0, e1_4, e1_5, e1_6, e1_7, e1_8, e1_9, e1_10, g39_0]) (by decide) ?_
      refine pops_off (b := false) rfl rfl (by simp only [upd_at, Nat.reduceEqDiff, if_true, if_false, e1_0, e1_4, e1_5, e1_6, e1_7, e1_8, e1_9, e1_10, g39_0]) (by decide) ?_
      refine pops_off (b := false) rfl rfl (by simp only [upd_at, Nat.reduceEqDiff, if_true, if_false, e1_0, e1_4, e1_5, e1_6, e1_7, e1_8, e1_9, e1_10, g39_0]) (by decide) ?_
      refine pops_to rfl fun M hM => ?_
      simp only [pop, St.eval, constSlot, upd_at, Nat.reduceEqDiff, if_true, if_false, popIf, true_implies, false_implies, Bool.true_eq_false, Bool.false_eq_true, reduceCtorEq, true_and, and_true, e1_0, e1_4, e1_5, e1_6, e1_7, e1_8, e1_9, e1_10, g39_0]
      refine hM _ _ ?_
      clear hM M
      exact pops_done (hJ25 _ (wk_same (wk_any ((wk_any ((wk_any ((wk_any (Wk.refl _ _))))))))))
     simp only [List.drop_succ_cons, List.drop_zero, anyAt_cons, anyAt_nil]
     refine pops_done (hR23 _ ?_)
     clear hR23 R23
     try simp only [thenK, scopeK]
     refine hN22 _ ?_
     clear hN22 N22
     refine pwp_cond (by simp only [St.eval, upd_at, Nat.reduceEqDiff, if_true, if_false, e1_0, e1_4, e1_5, e1_6, e1_7, e1_8, e1_9, e1_10] <;> rfl) (fun c44 => ?_) (fun c44 => ?_)
     ·skip
      rw [lw_eq hdl] at c44
      have hb44 : j < (t.dropWhile digitB).length ∧ lowB ((t.dropWhile digitB).getD j 0) = true := by simpa using c44
      refine pwp_skip ?_
      try simp only [thenK, scopeK]
      refine hN21 _ ?_
      clear hN21 N21
      refine pwp_block ?_
      refine pwp_reg fun R26 hR26 => ?_
      refine pops_mv (.inl rfl) rfl (by simp only [St.eval, upd_at, Nat.reduceEqDiff, if_true, if_false, e1_0, e1_4, e1_5, e1_6, e1_7, e1_8, e1_9, e1_10] <;> rfl) ?_
      refine pops_to rfl fun M hM => ?_
      simp only [pop, St.eval, constSlot, upd_at, Nat.reduceEqDiff, if_true, if_false, popBin, binK, intK, strK, eqK, eq_self, true_and, and_true, e1_0, e1_4, e1_5, e1_6, e1_7, e1_8, e1_9, e1_10]
      refine hM _ _ ?_
      clear hM M
      refine pops_mv (.inr rfl) rfl (by simp only [St.eval, upd_at, Nat.reduceEqDiff, if_true, if_false, e1_0, e1_4, e1_5, e1_6, e1_7, e1_8, e1_9, e1_10] <;> rfl) ?_
      refine pops_done (hR26 _ ?_)
      clear hR26 R26
      try simp only [blockK, thenK, scopeK]
      try simp only [thenK, scopeK]
      exact ⟨_, by omega, _, .refl _ _, j + 1, rfl, by omega, tw_step hb44.1 hx1_1 hb44.2, sl1, by simp only [upd_at, Nat.reduceEqDiff, if_true, if_false, e1_0, e1_4, e1_5, e1_6, e1_7, e1_8, e1_9, e1_10], by simp only [upd_at, Nat.reduceEqDiff, if_true, if_false, e1_0, e1_4, e1_5, e1_6, e1_7, e1_8, e1_9, e1_10], by simp only [upd_at, Nat.reduceEqDiff, if_true, if_false, e1_0, e1_4, e1_5, e1_6, e1_7, e1_8, e1_9, e1_10], by simp only [upd_at, Nat.reduceEqDiff, if_true, if_false, e1_0, e1_4, e1_5, e1_6, e1_7, e1_8, e1_9, e1_10], by simp only [upd_at, Nat.reduceEqDiff, if_true, if_false, e1_0, e1_4, e1_5, e1_6, e1_7, e1_8, e1_9, e1_10], by simp only [upd_at, Nat.reduceEqDiff, if_true, if_false, e1_0, e1_4, e1_5, e1_6, e1_7, e1_8, e1_9, e1_10], by simp only [upd_at, Nat.reduceEqDiff, if_true, if_false, e1_0, e1_4, e1_5, e1_6, e1_7, e1_8, e1_9, e1_10], by simp only [upd_at, Nat.reduceEqDiff, if_true, if_false, e1_10]; rw [wrap_succ (by omega)]; first | done | rfl⟩
     ·skip
      rw [lw_eq hdl] at c44
      have htw := tw_at hx1_1 c44
      have hcut := cut_rest t j
      have hcut2 := drop_rest t j
      refine pwp_exit ?_
      try simp only [thenK, blockK, scopeK, if_true, Nat.reduceEqDiff, if_false]
      clear hN21 N21
      try simp only [blockK, scopeK, if_true, Nat.reduceEqDiff, if_false, thenK]
      try simp only [thenK, scopeK]
      refine hN20 _ ?_
      clear hN20 N20
      refine pwp_then fun N27 hN27 => ?_
      refine pwp_reg fun R28 hR28 => ?_
      refine pops_mv (.inl rfl) rfl (by simp only [St.eval, upd_at, Nat.reduceEqDiff, if_true, if_false, e1_0, e1_4, e1_5, e1_6, e1_7, e1_8, e1_9, e1_10] <;> rfl) ?_
      refine pops_mv (.inl rfl) rfl (by simp only [St.eval, upd_at, Nat.reduceEqDiff, if_true, if_false, e1_0, e1_4, e1_5, e1_6, e1_7, e1_8, e1_9, e1_10] <;> rfl) ?_
      refine pops_mv (.inl rfl) rfl (by simp only [St.eval, upd_at, Nat.reduceEqDiff, if_true, if_false, e1_0, e1_4, e1_5, e1_6, e1_7, e1_8, e1_9, e1_10] <;> rfl) ?_
      refine pops_mv (.inl rfl) rfl (by simp only [St.eval, upd_at, Nat.reduceEqDiff, if_true, if_false, e1_0, e1_4, e1_5, e1_6, e1_7, e1_8, e1_9, e1_10] <;> rfl) ?_
      refine pops_to rfl fun M hM => ?_
      simp only [pop, St.eval, constSlot, upd_at, Nat.reduceEqDiff, if_true, if_false, popSlice, boundOf, Option.map_none, Option.map_some, Tryd.underlying9, eq_self, true_and, and_true, str_list, str_size, str_app, str_cut, str_get, e1_0, e1_4, e1_5, e1_6, e1_7, e1_8, e1_9, e1_10, Int.toNat_natCast, hcut]
      refine ⟨by omega, by omega, by omega, hM _ _ ?_⟩
      clear hM M
      refine pops_to rfl fun M hM => ?_
      simp only [pop, St.eval, constSlot, upd_at, Nat.reduceEqDiff, if_true, if_false, popCall, List.toList_toArray, List.map_cons, List.map_nil, svs, List.mapM_cons, List.mapM_nil, Option.bind_eq_bind, Option.bind_some, Option.pure_def, List.append_nil, List.cons_append, List.nil_append, str_size, e1_0, e1_4, e1_5, e1_6, e1_7, e1_8, e1_9, e1_10]
      refine (ix_fun W0 ((t.dropWhile digitB).take j) _).mono ?_
      rintro _ h9 ⟨z, rfl, hz, s9⟩
      replace s9 := Same.trans sl1 s9
      rw [← htw.1] at hz
      refine hM _ _ ?_
      clear hM M
      refine pops_mv (.inr rfl) rfl (by simp only [St.eval, upd_at, Nat.reduceEqDiff, if_true, if_false, e1_0, e1_4, e1_5, e1_6, e1_7, e1_8, e1_9, e1_10] <;> rfl) ?_
      refine pops_done (hR28 _ ?_)
      clear hR28 R28
      try simp only [thenK, scopeK]
      refine hN27 _ ?_
      clear hN27 N27
      refine pwp_then fun N29 hN29 => ?_
      refine pwp_then fun N30 hN30 => ?_
      refine pwp_reg fun R31 hR31 => ?_
      refine pops_mv (.inl rfl) rfl (by simp only [St.eval, upd_at, Nat.reduceEqDiff, if_true, if_false, e1_0, e1_4, e1_5, e1_6, e1_7, e1_8, e1_9, e1_10] <;> rfl) ?_
      refine pops_to rfl fun M hM => ?_
      simp only [pop, St.eval, constSlot, upd_at, Nat.reduceEqDiff, if_true, if_false, popBin, binK, intK, strK, eqK, Tryd.underlying3, isPtr, eq_self, true_and, and_true, e1_0, e1_4, e1_5, e1_6, e1_7, e1_8, e1_9, e1_10]
      refine hM _ _ ?_
      clear hM M
      refine pops_mv (.inl rfl) rfl (by simp only [St.eval, upd_at, Nat.reduceEqDiff, if_true, if_false, e1_0, e1_4, e1_5, e1_6, e1_7, e1_8, e1_9, e1_10] <;> rfl) ?_
      apply pops_or0 8 55 63 [56, 57, 58, 59, 60, 61, 62] (by simp only [upd_at, Nat.reduceEqDiff, if_true, if_false, e1_0, e1_4, e1_5, e1_6, e1_7, e1_8, e1_9, e1_10] <;> rfl)
      ·skip
       intro g55_0 J32 hJ32
       simp only [List.take_succ_cons, List.take_zero]
       simp only [anyAt_cons, anyAt_nil] at hJ32
       refine pops_mvg (.inl rfl) rfl rfl (by simp only [upd_at, Nat.reduceEqDiff, if_true, if_false, e1_0, e1_4, e1_5, e1_6, e1_7, e1_8, e1_9, e1_10, g55_0]) (by simp only [St.eval, upd_at, Nat.reduceEqDiff, if_true, if_false, e1_0, e1_4, e1_5, e1_6, e1_7, e1_8, e1_9, e1_10, g55_0] <;> rfl) ?_
       refine pops_do rfl rfl (by simp only [upd_at, Nat.reduceEqDiff, if_true, if_false, e1_0, e1_4, e1_5, e1_6, e1_7, e1_8, e1_9, e1_10, g55_0]) fun M hM => ?_
       simp only [pop, St.eval, constSlot, upd_at, Nat.reduceEqDiff, if_true, if_false, popBin, binK, intK, strK, eqK, eq_self, true_and, and_true, e1_0, e1_4, e1_5, e1_6, e1_7, e1_8, e1_9, e1_10, g55_0]
       refine hM _ _ ?_
       clear hM M
       refine pops_mvg (.inl rfl) rfl rfl (by simp only [upd_at, Nat.reduceEqDiff, if_true, if_false, e1_0, e1_4, e1_5, e1_6, e1_7, e1_8, e1_9, e1_10, g55_0]) (by simp only [St.eval, upd_at, Nat.reduceEqDiff, if_true, if_false, e1_0, e1_4, e1_5, e1_6, e1_7, e1_8, e1_9, e1_10, g55_0] <;> rfl) ?_
       apply pops_and0 4 58 62 [59, 60, 61] (by simp only [upd_at, Nat.reduceEqDiff, if_true, if_false, e1_0, e1_4, e1_5, e1_6, e1_7, e1_8, e1_9, e1_10, g55_0] <;> rfl)
       ·skip
        intro g58_1 J33 hJ33
        simp only [List.take_succ_cons, List.take_zero]
        simp only [anyAt_cons, anyAt_nil] at hJ33
        refine pops_mvg (.inl rfl) rfl rfl (by simp only [upd_at, Nat.reduceEqDiff, if_true, if_false, e1_0, e1_4, e1_5, e1_6, e1_7, e1_8, e1_9, e1_10, g55_0, g58_1]) (by simp only [St.eval, upd_at, Nat.reduceEqDiff, if_true, if_false, e1_0, e1_4, e1_5, e1_6, e1_7, e1_8, e1_9, e1_10, g55_0, g58_1] <;> rfl) ?_
        refine pops_do rfl rfl (by simp only [upd_at, Nat.reduceEqDiff, if_true, if_false, e1_0, e1_4, e1_5, e1_6, e1_7, e1_8, e1_9, e1_10, g55_0, g58_1]) fun M hM => ?_
        simp only [pop, St.eval, constSlot, upd_at, Nat.reduceEqDiff, if_true, if_false, popIndex, partK, Tryd.underlying9, eq_self, true_and, and_true, str_list, str_size, str_app, str_cut, str_get, e1_0, e1_4, e1_5, e1_6, e1_7, e1_8, e1_9, e1_10, g55_0, g58_1, hx00, Int.toNat_zero]
        refine ⟨by decide, hM _ _ ?_⟩
        clear hM M
        refine pops_do rfl rfl (by simp only [upd_at, Nat.reduceEqDiff, if_true, if_false, e1_0, e1_4, e1_5, e1_6, e1_7, e1_8, e1_9, e1_10, g55_0, g58_1]) fun M hM => ?_
        simp only [pop, St.eval, constSlot, upd_at, Nat.reduceEqDiff, if_true, if_false, popBin, binK, intK, strK, eqK, Tryd.underlying5, isPtr, eq_self, true_and, and_true, e1_0, e1_4, e1_5, e1_6, e1_7, e1_8, e1_9, e1_10, g55_0, g58_1]
        refine hM _ _ ?_
        clear hM M
        refine pops_do rfl rfl (by simp only [upd_at, Nat.reduceEqDiff, if_true, if_false, e1_0, e1_4, e1_5, e1_6, e1_7, e1_8, e1_9, e1_10, g55_0, g58_1]) fun M hM => ?_
        simp only [pop, St.eval, constSlot, upd_at, Nat.reduceEqDiff, if_true, if_false, popIf, true_implies, false_implies, Bool.true_eq_false, Bool.false_eq_true, reduceCtorEq, true_and, and_true, e1_0, e1_4, e1_5, e1_6, e1_7, e1_8, e1_9, e1_10, g55_0, g58_1]
        refine hM _ _ ?_
        clear hM M
        exact pops_done (hJ33 _ (wk_same (wk_any ((wk_any ((wk_any (Wk.refl _ _))))))))
       ·skip
        intro g58_1 J33 hJ33
        simp only [List.take_succ_cons, List.take_zero]
        simp only [anyAt_cons, anyAt_nil] at hJ33
        refine pops_off (b := false) rfl rfl (by simp only [upd_at, Nat.reduceEqDiff, if_true, if_false, e1_0, e1_4, e1_5, e1_6, e1_7, e1_8, e1_9, e1_10, g55_0, g58_1]) (by decide) ?_
        refine pops_off (b := false) rfl rfl (by simp only [upd_at, Nat.reduceEqDiff, if_true, if_false, e1_0, e1_4, e1_5, e1_6, e1_7, e1_8, e1_9, e1_10, g55_0, g58_1]) (by decide) ?_
        refine pops_off (b := false) rfl rfl (by simp only [upd_at, Nat.reduceEqDiff, if_true, if_false, e1_0, e1_4, e1_5, e1_6, e1_7, e1_8, e1_9, e1_10, g55_0, g58_1]) (by decide) ?_
        refine pops_do rfl rfl (by simp only [upd_at, Nat.reduceEqDiff, if_true, if_false, e1_0, e1_4, e1_5, e1_6, e1_7, e1_8, e1_9, e1_10, g55_0, g58_1]) fun M hM => ?_
        simp only [pop, St.eval, constSlot, upd_at, Nat.reduceEqDiff, if_true, if_false, popIf, true_implies, false_implies, Bool.true_eq_false, Bool.false_eq_true, reduceCtorEq, true_and, and_true, e1_0, e1_4, e1_5, e1_6, e1_7, e1_8, e1_9, e1_10, g55_0, g58_1]
        refine hM _ _ ?_
        clear hM M
        exact pops_done (hJ33 _ (wk_same (wk_any ((wk_any ((wk_any (Wk.refl _ _))))))))
       simp only [List.drop_succ_cons, List.drop_zero, anyAt_cons, anyAt_nil]
       refine pops_to rfl fun M hM => ?_
       simp only [pop, St.eval, constSlot, upd_at, Nat.reduceEqDiff, if_true, if_false, popIf, true_implies, false_implies, Bool.true_eq_false, Bool.false_eq_true, reduceCtorEq, true_and, and_true, e1_0, e1_4, e1_5, e1_6, e1_7, e1_8, e1_9, e1_10, g55_0]
       refine hM _ _ ?_
       clear hM M
       exact pops_done (hJ32 _ (wk_same (wk_any ((wk_any ((wk_any ((wk_any ((wk_any ((wk_any ((wk_any (Wk.refl _ _))))))))))))))))
      ·skip
       intro g55_0 J32 hJ32
       simp only [List.take_succ_cons, List.take_zero]
       simp only [anyAt_cons, anyAt_nil] at hJ32
       refine pops_off (b := true) rfl rfl (by simp only [upd_at, Nat.reduceEqDiff, if_true, if_false, e1_0, e1_4, e1_5, e1_6, e1_7, e1_8, e1_9, e1_10, g55_0]) (by decide) ?_
       refine pops_off (b := true) rfl rfl (by simp only [upd_at, Nat.reduceEqDiff, if_true, if_false, e1_0, e1_4, e1_5, e1_6, e1_7, e1_8, e1_9, e1_10, g55_0]) (by decide) ?_
       refine pops_off (b := true) rfl rfl (by simp only [upd_at, Nat.reduceEqDiff, if_true, if_false, e1_0, e1_4, e1_5, e1_6, e1_7, e1_8, e1_9, e1_10, g55_0]) (by decide) ?_
       refine pops_off0 rfl rfl (by simp only [upd_at, Nat.reduceEqDiff, if_true, if_false, e1_0, e1_4, e1_5, e1_6, e1_7, e1_8, e1_9, e1_10, g55_0]) ?_
       refine pops_off0 rfl rfl (by simp only [upd_at, Nat.reduceEqDiff, if_true, if_false, e1_0, e1_4, e1_5, e1_6, e1_7, e1_8, e1_9, e1_10, g55_0]) ?_
       refine pops_off0 rfl rfl (by simp only [upd_at, Nat.reduceEqDiff, if_true, if_false, e1_0, e1_4, e1_5, e1_6, e1_7, e1_8, e1_9, e1_10, g55_0]) ?_
       refine pops_off (b := true) rfl rfl (by simp only [upd_at, Nat.reduceEqDiff, if_true, if_false, e1_0, e1_4, e1_5, e1_6, e1_7, e1_8, e1_9, e1_10, g55_0]) (by decide) ?_
       refine pops_to rfl fun M hM => ?_
       simp only [pop, St.eval, constSlot, upd_at, Nat.reduceEqDiff, if_true, if_false, popIf, true_implies, false_implies, Bool.true_eq_false, Bool.false_eq_true, reduceCtorEq, true_and, and_true, e1_0, e1_4, e1_5, e1_6, e1_7, e1_8, e1_9, e1_10, g55_0]
       refine hM _ _ ?_
       clear hM M
       exact pops_done (hJ32 _ (wk_same (wk_any ((wk_any ((wk_any ((wk_any ((wk_any ((wk_any ((wk_any (Wk.refl _ _))))))))))))))))
      simp only [List.drop_succ_cons, List.drop_zero, anyAt_cons, anyAt_nil]
      refine pops_mv (.inl rfl) rfl (by simp only [St.eval, upd_at, Nat.reduceEqDiff, if_true, if_false, e1_0, e1_4, e1_5, e1_6, e1_7, e1_8, e1_9, e1_10] <;> rfl) ?_
      apply pops_or0 4 64 68 [65, 66, 67] (by simp only [upd_at, Nat.reduceEqDiff, if_true, if_false, e1_0, e1_4, e1_5, e1_6, e1_7, e1_8, e1_9, e1_10] <;> rfl)
      ·skip
       intro g64_0 J34 hJ34
       simp only [List.take_succ_cons, List.take_zero]
       simp only [anyAt_cons, anyAt_nil] at hJ34
       refine pops_mvg (.inl rfl) rfl rfl (by simp only [upd_at, Nat.reduceEqDiff, if_true, if_false, e1_0, e1_4, e1_5, e1_6, e1_7, e1_8, e1_9, e1_10, g64_0]) (by simp only [St.eval, upd_at, Nat.reduceEqDiff, if_true, if_false, e1_0, e1_4, e1_5, e1_6, e1_7, e1_8, e1_9, e1_10, g64_0] <;> rfl) ?_
       refine pops_mvg (.inl rfl) rfl rfl (by simp only [upd_at, Nat.reduceEqDiff, if_true, if_false, e1_0, e1_4, e1_5, e1_6, e1_7, e1_8, e1_9, e1_10, g64_0]) (by simp only [St.eval, upd_at, Nat.reduceEqDiff, if_true, if_false, e1_0, e1_4, e1_5, e1_6, e1_7, e1_8, e1_9, e1_10, g64_0] <;> rfl) ?_
       refine pops_do rfl rfl (by simp only [upd_at, Nat.reduceEqDiff, if_true, if_false, e1_0, e1_4, e1_5, e1_6, e1_7, e1_8, e1_9, e1_10, g64_0]) fun M hM => ?_
       simp only [pop, St.eval, constSlot, upd_at, Nat.reduceEqDiff, if_true, if_false, popBin, binK, intK, strK, eqK, eq_self, true_and, and_true, e1_0, e1_4, e1_5, e1_6, e1_7, e1_8, e1_9, e1_10, g64_0]
       refine hM _ _ ?_
       clear hM M
       refine pops_to rfl fun M hM => ?_
       simp only [pop, St.eval, constSlot, upd_at, Nat.reduceEqDiff, if_true, if_false, popIf, true_implies, false_implies, Bool.true_eq_false, Bool.false_eq_true, reduceCtorEq, true_and, and_true, e1_0, e1_4, e1_5, e1_6, e1_7, e1_8, e1_9, e1_10, g64_0]
       refine hM _ _ ?_
       clear hM M
       exact pops_done (hJ34 _ (wk_same (wk_any ((wk_any ((wk_any (Wk.refl _ _))))))))
      ·skip
       intro g64_0 J34 hJ34
       simp only [List.take_succ_cons, List.take_zero]
       simp only [anyAt_cons, anyAt_nil] at hJ34
       refine pops_off (b := true) rfl rfl (by simp only [upd_at, Nat.reduceEqDiff, if_true, if_false, e1_0, e1_4, e1_5, e1_6, e1_7, e1_8, e1_9, e1_10, g64_0]) (by decide) ?_
       refine pops_off (b := true) rfl rfl (by simp only [upd_at, Nat.reduceEqDiff, if_true, if_false, e1_0, e1_4, e1_5, e1_6, e1_7, e1_8, e1_9, e1_10, g64_0]) (by decide) ?_
       refine pops_off (b := true) rfl rfl (by simp only [upd_at, Nat.reduceEqDiff, if_true, if_false, e1_0, e1_4, e1_5, e1_6, e1_7, e1_8, e1_9, e1_10, g64_0]) (by decide) ?_
       refine pops_to rfl fun M hM => ?_
       simp only [pop, St.eval, constSlot, upd_at, Nat.reduceEqDiff, if_true, if_false, popIf, true_implies, false_implies, Bool.true_eq_false, Bool.false_eq_true, reduceCtorEq, true_and, and_true, e1_0, e1_4, e1_5, e1_6, e1_7, e1_8, e1_9, e1_10, g64_0]
       refine hM _ _ ?_
       clear hM M
       exact pops_done (hJ34 _ (wk_same (wk_any ((wk_any ((wk_any (Wk.refl _ _))))))))
      simp only [List.drop_succ_cons, List.drop_zero, anyAt_cons, anyAt_nil]
      refine pops_done (hR31 _ ?_)
      clear hR31 R31
      try simp only [thenK, scopeK]
      refine hN30 _ ?_
      clear hN30 N30
      refine pwp_cond (by simp only [St.eval, upd_at, Nat.reduceEqDiff, if_true, if_false, e1_0, e1_4, e1_5, e1_6, e1_7, e1_8, e1_9, e1_10] <;> rfl) (fun c68 => ?_) (fun c68 => ?_)
      ·skip
       rw [nb_ref hne] at c68
       have hend := ref_bad hne hx0_1 hz c68 hx0_3 hs0
       refine pwp_then fun N35 hN35 => ?_
       refine pwp_reg fun R36 hR36 => ?_
       refine pops_mv (.inr rfl) rfl (by simp only [St.eval, constSlot] <;> rfl) ?_
       refine pops_mv (.inr rfl) rfl (by simp only [St.eval, constSlot] <;> rfl) ?_
       refine pops_done (hR36 _ ?_)
       clear hR36 R36
       try simp only [thenK, scopeK]
       refine hN35 _ ?_
       clear hN35 N35
       refine pwp_ret ?_
       simp only [thenK, blockK, scopeK, bodyK]
       clear hN29 N29 hN12 N12
       refine ⟨_, rfl, endFun s9 ?_⟩
       try simp only [upd_at, Nat.reduceEqDiff, if_true, if_false, e1_0, e1_4, e1_5, e1_6, e1_7, e1_8, e1_9, e1_10]
       all_goals
        rw [hend]
      ·skip
       rw [nb_ref hne] at c68
       obtain ⟨hnb, q, rfl, hqw, hqn⟩ := ref_ok hz c68
       have hq8 : q < 8 := (List.getElem?_eq_some_iff.1 hqw).1
       obtain ⟨hu0, hub⟩ := us_pos hq8
       have hget5 := usr_at hq8
       have hdne : (t.takeWhile digitB) ≠ [] := by intro e; rw [e] at hnb; cases hnb
       have hls := len_step2 hnb
       have hwu : IntKind.u64.wrap ((US.getD q 1 : Nat) : Int) = ((US.getD q 1 : Nat) : Int) := wrap_u64 (by omega) (by omega)
       have hq85 : IntKind.u64.wrap (Int.tdiv 4611686018427387904 ((US.getD q 1 : Nat) : Int)) = ((4611686018427387904 / US.getD q 1 : Nat) : Int) := quo_u64 4611686018427387904 (US.getD q 1) (by decide)
       refine pwp_skip ?_
       try simp only [thenK, scopeK]
       refine hN29 _ ?_
       clear hN29 N29
       refine pwp_then fun N37 hN37 => ?_
       refine pwp_reg fun R38 hR38 => ?_
       refine pops_mv (.inl rfl) rfl (by simp only [St.eval, upd_at, Nat.reduceEqDiff, if_true, if_false, e1_0, e1_4, e1_5, e1_6, e1_7, e1_8, e1_9, e1_10] <;> rfl) ?_
       refine pops_mv (.inl rfl) rfl (by simp only [St.eval, upd_at, Nat.reduceEqDiff, if_true, if_false, e1_0, e1_4, e1_5, e1_6, e1_7, e1_8, e1_9, e1_10] <;> rfl) ?_
       refine pops_to rfl fun M hM => ?_
       simp only [pop, St.eval, constSlot, upd_at, Nat.reduceEqDiff, if_true, if_false, popSlice, boundOf, Option.map_none, Option.map_some, Tryd.underlying9, eq_self, true_and, and_true, str_list, str_size, str_app, str_cut, str_get, e1_0, e1_4, e1_5, e1_6, e1_7, e1_8, e1_9, e1_10, Int.toNat_natCast, Int.toNat_zero, List.drop_zero, htk]
       refine ⟨by omega, by omega, by omega, hM _ _ ?_⟩
       clear hM M
       refine pops_to rfl fun M hM => ?_
       simp only [pop, St.eval, constSlot, upd_at, Nat.reduceEqDiff, if_true, if_false, popCall, List.toList_toArray, List.map_cons, List.map_nil, svs, List.mapM_cons, List.mapM_nil, Option.bind_eq_bind, Option.bind_some, Option.pure_def, List.append_nil, List.cons_append, List.nil_append, str_size, e1_0, e1_4, e1_5, e1_6, e1_7, e1_8, e1_9, e1_10]
       refine PFun.use (pub_fun W0 hE (t.takeWhile digitB) (fun c hc => tw_mem hc) hdne (by omega)) fun h3 s3 => hM _ _ ?_
       replace s3 := Same.trans s9 s3
       clear hM M
       refine pops_mv (.inl rfl) rfl (by simp only [St.eval, upd_at, Nat.reduceEqDiff, if_true, if_false, e1_0, e1_4, e1_5, e1_6, e1_7, e1_8, e1_9, e1_10] <;> rfl) ?_
       refine pops_to rfl fun M hM => ?_
       simp only [pop, St.eval, constSlot, upd_at, Nat.reduceEqDiff, if_true, if_false, List.getElem?_toArray, List.getElem?_cons_zero, List.getElem?_cons_succ, e1_0, e1_4, e1_5, e1_6, e1_7, e1_8, e1_9, e1_10]
       refine hM _ _ ?_
       clear hM M
       refine pops_to rfl fun M hM => ?_
       simp only [pop, St.eval, constSlot, upd_at, Nat.reduceEqDiff, if_true, if_false, List.getElem?_toArray, List.getElem?_cons_zero, List.getElem?_cons_succ, e1_0, e1_4, e1_5, e1_6, e1_7, e1_8, e1_9, e1_10]
       refine hM _ _ ?_
       clear hM M
       refine pops_mv (.inr rfl) rfl (by simp only [St.eval, upd_at, Nat.reduceEqDiff, if_true, if_false, e1_0, e1_4, e1_5, e1_6, e1_7, e1_8, e1_9, e1_10] <;> rfl) ?_
       refine pops_mv (.inr rfl) rfl (by simp only [St.eval, upd_at, Nat.reduceEqDiff, if_true, if_false, e1_0, e1_4, e1_5, e1_6, e1_7, e1_8, e1_9, e1_10] <;> rfl) ?_
       refine pops_done (hR38 _ ?_)
       clear hR38 R38
       try simp only [thenK, scopeK]
       refine hN37 _ ?_
       clear hN37 N37
       refine pwp_then fun N39 hN39 => ?_
       refine pwp_then fun N40 hN40 => ?_
       refine pwp_reg fun R41 hR41 => ?_
       refine pops_mv (.inl rfl) rfl (by simp only [St.eval, upd_at, Nat.reduceEqDiff, if_true, if_false, e1_0, e1_4, e1_5, e1_6, e1_7, e1_8, e1_9, e1_10] <;> rfl) ?_
       refine pops_to rfl fun M hM => ?_
       simp only [pop, St.eval, constSlot, upd_at, Nat.reduceEqDiff, if_true, if_false, eq_self, true_and, and_true, e1_0, e1_4, e1_5, e1_6, e1_7, e1_8, e1_9, e1_10]
       refine nil_neq Tryd.underlying77 (rfl : puX (t.takeWhile digitB) = _) (.inl rfl) (hM _ _ ?_)
       clear hM M
       refine pops_mv (.inl rfl) rfl (by simp only [St.eval, upd_at, Nat.reduceEqDiff, if_true, if_false, e1_0, e1_4, e1_5, e1_6, e1_7, e1_8, e1_9, e1_10] <;> rfl) ?_
       apply pops_or0 9 78 87 [79, 80, 81, 82, 83, 84, 85, 86] (by simp only [upd_at, Nat.reduceEqDiff, if_true, if_false, e1_0, e1_4, e1_5, e1_6, e1_7, e1_8, e1_9, e1_10] <;> rfl)
       ·skip
        intro g78_0 J42 hJ42
        simp only [List.take_succ_cons, List.take_zero]
        simp only [anyAt_cons, anyAt_nil] at hJ42
        refine pops_mvg (.inl rfl) rfl rfl (by simp only [upd_at, Nat.reduceEqDiff, if_true, if_false, e1_0, e1_4, e1_5, e1_6, e1_7, e1_8, e1_9, e1_10, g78_0]) (by simp only [St.eval, upd_at, Nat.reduceEqDiff, if_true, if_false, e1_0, e1_4, e1_5, e1_6, e1_7, e1_8, e1_9, e1_10, g78_0] <;> rfl) ?_
        refine pops_mvg (.inl rfl) rfl rfl (by simp only [upd_at, Nat.reduceEqDiff, if_true, if_false, e1_0, e1_4, e1_5, e1_6, e1_7, e1_8, e1_9, e1_10, g78_0]) (by simp only [St.eval, upd_at, Nat.reduceEqDiff, if_true, if_false, e1_0, e1_4, e1_5, e1_6, e1_7, e1_8, e1_9, e1_10, g78_0] <;> rfl) ?_
        refine pops_mvg (.inl rfl) rfl rfl (by simp only [upd_at, Nat.reduceEqDiff, if_true, if_false, e1_0, e1_4, e1_5, e1_6, e1_7, e1_8, e1_9, e1_10, g78_0]) (by simp only [St.eval, upd_at, Nat.reduceEqDiff, if_true, if_false, e1_0, e1_4, e1_5, e1_6, e1_7, e1_8, e1_9, e1_10, g78_0] <;> rfl) ?_
        refine pops_do rfl rfl (by simp only [upd_at, Nat.reduceEqDiff, if_true, if_false, e1_0, e1_4, e1_5, e1_6, e1_7, e1_8, e1_9, e1_10, g78_0]) fun M hM => ?_
        simp only [pop, St.eval, constSlot, upd_at, Nat.reduceEqDiff, if_true, if_false, popIndexAddr, Tryd.underlying70, sz3, eq_self, true_and, and_true, str_list, str_size, str_app, str_cut, str_get, e1_0, e1_4, e1_5, e1_6, e1_7, e1_8, e1_9, e1_10, g78_0, hget5, Int.toNat_natCast]
        refine ⟨Int.natCast_nonneg _, hM _ _ ?_⟩
        clear hM M
        refine pops_do rfl rfl (by simp only [upd_at, Nat.reduceEqDiff, if_true, if_false, e1_0, e1_4, e1_5, e1_6, e1_7, e1_8, e1_9, e1_10, g78_0]) fun M hM => ?_
        simp only [pop, St.eval, constSlot, upd_at, Nat.reduceEqDiff, if_true, if_false, popLoad, loadK, isAggD, List.drop_zero, List.getElem?_toArray, List.getElem?_cons_zero, List.getElem?_cons_succ, Bool.false_eq_true, Tryd.underlying3, sz3, eq_self, true_and, and_true, e1_0, e1_4, e1_5, e1_6, e1_7, e1_8, e1_9, e1_10, g78_0]
        refine hM _ _ ?_
        clear hM M
        refine pops_do rfl rfl (by simp only [upd_at, Nat.reduceEqDiff, if_true, if_false, e1_0, e1_4, e1_5, e1_6, e1_7, e1_8, e1_9, e1_10, g78_0]) fun M hM => ?_
        simp only [pop, St.eval, constSlot, upd_at, Nat.reduceEqDiff, if_true, if_false, popConvert, Tryd.underlying3, Tryd.underlying73, eq_self, true_and, and_true, str_list, str_size, str_app, str_cut, str_get, e1_0, e1_4, e1_5, e1_6, e1_7, e1_8, e1_9, e1_10, g78_0, hwu]
        refine hM _ _ ?_
        clear hM M
        refine pops_do rfl rfl (by simp only [upd_at, Nat.reduceEqDiff, if_true, if_false, e1_0, e1_4, e1_5, e1_6, e1_7, e1_8, e1_9, e1_10, g78_0]) fun M hM => ?_
        simp only [pop, St.eval, constSlot, upd_at, Nat.reduceEqDiff, if_true, if_false, popBin, binK, intK, strK, eqK, eq_self, true_and, and_true, e1_0, e1_4, e1_5, e1_6, e1_7, e1_8, e1_9, e1_10, g78_0]
        refine ⟨by omega, ?_⟩
        rw [hq85]
        refine hM _ _ ?_
        clear hM M
        refine pops_do rfl rfl (by simp only [upd_at, Nat.reduceEqDiff, if_true, if_false, e1_0, e1_4, e1_5, e1_6, e1_7, e1_8, e1_9, e1_10, g78_0]) fun M hM => ?_
        simp only [pop, St.eval, constSlot, upd_at, Nat.reduceEqDiff, if_true, if_false, popBin, binK, intK, strK, eqK, eq_self, true_and, and_true, e1_0, e1_4, e1_5, e1_6, e1_7, e1_8, e1_9, e1_10, g78_0]
        refine hM _ _ ?_
        clear hM M
        refine pops_to rfl fun M hM => ?_
        simp only [pop, St.eval, constSlot, upd_at, Nat.reduceEqDiff, if_true, if_false, popIf, true_implies, false_implies, Bool.true_eq_false, Bool.false_eq_true, reduceCtorEq, true_and, and_true, e1_0, e1_4, e1_5, e1_6, e1_7, e1_8, e1_9, e1_10, g78_0]
        refine hM _ _ ?_
        clear hM M
        exact pops_done (hJ42 _ (wk_same (wk_any ((wk_any ((wk_any ((wk_any ((wk_any ((wk_any ((wk_any ((wk_any (Wk.refl _ _))))))))))))))))))
       ·skip
        intro g78_0 J42 hJ42
        simp only [List.take_succ_cons, List.take_zero]
        simp only [anyAt_cons, anyAt_nil] at hJ42
        refine pops_off (b := true) rfl rfl (by simp only [upd_at, Nat.reduceEqDiff, if_true, if_false, e1_0, e1_4, e1_5, e1_6, e1_7, e1_8, e1_9, e1_10, g78_0]) (by decide) ?_
        refine pops_off (b := true) rfl rfl (by simp only [upd_at, Nat.reduceEqDiff, if_true, if_false, e1_0, e1_4, e1_5, e1_6, e1_7, e1_8, e1_9, e1_10, g78_0]) (by decide) ?_
        refine pops_off (b := true) rfl rfl (by simp only [upd_at, Nat.reduceEqDiff, if_true, if_false, e1_0, e1_4, e1_5, e1_6, e1_7, e1_8, e1_9, e1_10, g78_0]) (by decide) ?_
        refine pops_off (b := true) rfl rfl (by simp only [upd_at, Nat.reduceEqDiff, if_true, if_false, e1_0, e1_4, e1_5, e1_6, e1_7, e1_8, e1_9, e1_10, g78_0]) (by decide) ?_
        refine pops_off (b := true) rfl rfl (by simp only [upd_at, Nat.reduceEqDiff, if_true, if_false, e1_0, e1_4, e1_5, e1_6, e1_7, e1_8, e1_9, e1_10, g78_0]) (by decide) ?_
        refine pops_off (b := true) rfl rfl (by simp only [upd_at, Nat.reduceEqDiff, if_true, if_false, e1_0, e1_4, e1_5, e1_6, e1_7, e1_8, e1_9, e1_10, g78_0]) (by decide) ?_
        refine pops_off (b := true) rfl rfl (by simp only [upd_at, Nat.reduceEqDiff, if_true, if_false, e1_0, e1_4, e1_5, e1_6, e1_7, e1_8, e1_9, e1_10, g78_0]) (by decide) ?_
        refine pops_off (b := true) rfl rfl (by simp only [upd_at, Nat.reduceEqDiff, if_true, if_false, e1_0, e1_4, e1_5, e1_6, e1_7, e1_8, e1_9, e1_10, g78_0]) (by decide) ?_
        refine pops_to rfl fun M hM => ?_
        simp only [pop, St.eval, constSlot, upd_at, Nat.reduceEqDiff, if_true, if_false, popIf, true_implies, false_implies, Bool.true_eq_false, Bool.false_eq_true, reduceCtorEq, true_and, and_true, e1_0, e1_4, e1_5, e1_6, e1_7, e1_8, e1_9, e1_10, g78_0]
        refine hM _ _ ?_
        clear hM M
        exact pops_done (hJ42 _ (wk_same (wk_any ((wk_any ((wk_any ((wk_any ((wk_any ((wk_any ((wk_any ((wk_any (Wk.refl _ _))))))))))))))))))
       simp only [List.drop_succ_cons, List.drop_zero, anyAt_cons, anyAt_nil]
       refine pops_done (hR41 _ ?_)
       clear hR41 R41
       try simp only [thenK, scopeK]
       refine hN40 _ ?_
       clear hN40 N40
       refine pwp_cond (by simp only [St.eval, upd_at, Nat.reduceEqDiff, if_true, if_false, e1_0, e1_4, e1_5, e1_6, e1_7, e1_8, e1_9, e1_10] <;> rfl) (fun c87 => ?_) (fun c87 => ?_)
       ·skip
        rw [pu_num hu0 hub] at c87
        have hadd := times_over (tot := tot) c87
        refine pwp_reg fun R43 hR43 => ?_
        refine pops_mv (.inr rfl) rfl (by simp only [St.eval, constSlot] <;> rfl) ?_
        refine pops_done (hR43 _ ?_)
        clear hR43 R43
        try simp only [thenK, scopeK]
        refine hN39 _ ?_
        clear hN39 N39
        refine pwp_dreg 6 mixed (by decide +kernel) fun R44 hR44 => ?_
        simp only [List.take_succ_cons, List.take_zero, List.drop_succ_cons, List.drop_zero]
        apply lex_to
        · rfl
        ·intro h' s' M hM
         simp only [pop, St.eval, constSlot, upd_at, Nat.reduceEqDiff, if_true, if_false, eq_self, true_and, and_true, str_list, str_size, str_app, str_cut, str_get, e1_0, e1_4, e1_5, e1_6, e1_7, e1_8, e1_9, e1_10, s'.1]
         exact hM _ (.refl _)
        apply lex_to
        · rfl
        ·intro h' s' M hM
         simp only [pop, St.eval, constSlot, upd_at, Nat.reduceEqDiff, if_true, if_false, eq_self, true_and, and_true, str_list, str_size, str_app, str_cut, str_get, e1_0, e1_4, e1_5, e1_6, e1_7, e1_8, e1_9, e1_10, s'.1]
         exact hM _ (.refl _)
        apply lex_to
        · rfl
        ·intro h' s' M hM
         simp only [pop, St.eval, constSlot, upd_at, Nat.reduceEqDiff, if_true, if_false, eq_self, true_and, and_true, str_list, str_size, str_app, str_cut, str_get, e1_0, e1_4, e1_5, e1_6, e1_7, e1_8, e1_9, e1_10, s'.1]
         exact hM _ (.refl _)
        apply lex_to
        · rfl
        ·intro h' s' M hM
         simp only [pop, St.eval, constSlot, upd_at, Nat.reduceEqDiff, if_true, if_false, popSlice, boundOf, Option.map_none, Option.map_some, Tryd.underlying9, eq_self, true_and, and_true, str_list, str_size, str_app, str_cut, str_get, e1_0, e1_4, e1_5, e1_6, e1_7, e1_8, e1_9, e1_10, Int.toNat_natCast, List.take_length, hcut2, s'.1]
         refine ⟨by omega, by omega, by omega, ?_⟩
         exact hM _ (.refl _)
        apply lex_to
        · rfl
        ·intro h' s' M hM
         simp only [pop, St.eval, constSlot, upd_at, Nat.reduceEqDiff, if_true, if_false, eq_self, true_and, and_true, str_list, str_size, str_app, str_cut, str_get, e1_0, e1_4, e1_5, e1_6, e1_7, e1_8, e1_9, e1_10, s'.1]
         exact hM _ (.refl _)
        apply lex_to
        · rfl
        ·intro h' s' M hM
         simp only [pop, St.eval, constSlot, upd_at, Nat.reduceEqDiff, if_true, if_false, eq_self, true_and, and_true, str_list, str_size, str_app, str_cut, str_get, e1_0, e1_4, e1_5, e1_6, e1_7, e1_8, e1_9, e1_10, s'.1]
         exact hM _ (.refl _)
        refine lex_done fun hq sq => ?_
        replace sq := Same.trans s3 sq
        refine pops_done (hR44 _ ?_)
        clear hR44 R44
        try simp only [blockK, thenK, scopeK]
        try simp only [thenK, scopeK]
        exact ⟨_, by omega, _, .refl _ _, (t.dropWhile digitB).dropWhile lowB, q + 1, addV tot (timesV (numV (t.takeWhile digitB)) (US.getD q 1)), sum, fu - 1, rfl, by omega, by omega, addV_le _ _, (go_step2 hx0_0 hne hnb hqw hqn).symm.trans hx0_3, by omega, by rw [hadd]; omega, hx0_6, sq, by simp only [upd_at, Nat.reduceEqDiff, if_true, if_false, htw.2], by simp only [upd_at, Nat.reduceEqDiff, if_true, if_false, e1_0, e1_4, e1_5, e1_6, e1_7, e1_8, e1_9, e1_10], by simp only [upd_at, Nat.reduceEqDiff, if_true, if_false, e1_0, e1_4, e1_5, e1_6, e1_7, e1_8, e1_9, e1_10], by simp only [upd_at, Nat.reduceEqDiff, if_true, if_false]; rw [show ((q + 1 : Nat) : Int) - 1 = (q : Int) by omega], by first | (simp only [upd_at, Nat.reduceEqDiff, if_true, if_false, e1_7]; done) | (simp only [upd_at, Nat.reduceEqDiff, if_true, if_false, hw96]; done) | (simp only [upd_at, Nat.reduceEqDiff, if_true, if_false]; rfl), by simp only [upd_at, Nat.reduceEqDiff, if_true, if_false, hadd]; rfl⟩
       ·skip
        rw [pu_num hu0 hub] at c87
        obtain ⟨htv, hxle, hpv⟩ := times_fit hu0 c87
        have hw95 : IntKind.u64.wrap (((puV (t.takeWhile digitB) : Nat) : Int) * ((US.getD q 1 : Nat) : Int)) = (((numV (t.takeWhile digitB) * US.getD q 1) : Nat) : Int) := by rw [hpv, ← Int.natCast_mul, wrap_u64 (by omega) (by omega)]
        have hw96 : IntKind.u64.wrap (((sum : Nat) : Int) + (((numV (t.takeWhile digitB) * US.getD q 1) : Nat) : Int)) = ((sum + (numV (t.takeWhile digitB) * US.getD q 1) : Nat) : Int) := by rw [wrap_u64 (by omega) (by omega)]; omega
        refine pwp_then fun N45 hN45 => ?_
        refine pwp_reg fun R46 hR46 => ?_
        refine pops_mv (.inl rfl) rfl (by simp only [St.eval, upd_at, Nat.reduceEqDiff, if_true, if_false, e1_0, e1_4, e1_5, e1_6, e1_7, e1_8, e1_9, e1_10] <;> rfl) ?_
        refine pops_mv (.inl rfl) rfl (by simp only [St.eval, upd_at, Nat.reduceEqDiff, if_true, if_false, e1_0, e1_4, e1_5, e1_6, e1_7, e1_8, e1_9, e1_10] <;> rfl) ?_
        refine pops_mv (.inl rfl) rfl (by simp only [St.eval, upd_at, Nat.reduceEqDiff, if_true, if_false, e1_0, e1_4, e1_5, e1_6, e1_7, e1_8, e1_9, e1_10] <;> rfl) ?_
        refine pops_mv (.inl rfl) rfl (by simp only [St.eval, upd_at, Nat.reduceEqDiff, if_true, if_false, e1_0, e1_4, e1_5, e1_6, e1_7, e1_8, e1_9, e1_10] <;> rfl) ?_
        refine pops_to rfl fun M hM => ?_
        simp only [pop, St.eval, constSlot, upd_at, Nat.reduceEqDiff, if_true, if_false, popIndexAddr, Tryd.underlying70, sz3, eq_self, true_and, and_true, str_list, str_size, str_app, str_cut, str_get, e1_0, e1_4, e1_5, e1_6, e1_7, e1_8, e1_9, e1_10, hget5, Int.toNat_natCast]
        refine ⟨Int.natCast_nonneg _, hM _ _ ?_⟩
        clear hM M
        refine pops_to rfl fun M hM => ?_
        simp only [pop, St.eval, constSlot, upd_at, Nat.reduceEqDiff, if_true, if_false, popLoad, loadK, isAggD, List.drop_zero, List.getElem?_toArray, List.getElem?_cons_zero, List.getElem?_cons_succ, Bool.false_eq_true, Tryd.underlying3, sz3, eq_self, true_and, and_true, e1_0, e1_4, e1_5, e1_6, e1_7, e1_8, e1_9, e1_10]
        refine hM _ _ ?_
        clear hM M
        refine pops_to rfl fun M hM => ?_
        simp only [pop, St.eval, constSlot, upd_at, Nat.reduceEqDiff, if_true, if_false, popConvert, Tryd.underlying3, Tryd.underlying73, eq_self, true_and, and_true, str_list, str_size, str_app, str_cut, str_get, e1_0, e1_4, e1_5, e1_6, e1_7, e1_8, e1_9, e1_10, hwu]
        refine hM _ _ ?_
        clear hM M
        refine pops_to rfl fun M hM => ?_
        simp only [pop, St.eval, constSlot, upd_at, Nat.reduceEqDiff, if_true, if_false, popBin, binK, intK, strK, eqK, eq_self, true_and, and_true, e1_0, e1_4, e1_5, e1_6, e1_7, e1_8, e1_9, e1_10, hw95]
        refine hM _ _ ?_
        clear hM M
        refine pops_to rfl fun M hM => ?_
        simp only [pop, St.eval, constSlot, upd_at, Nat.reduceEqDiff, if_true, if_false, popBin, binK, intK, strK, eqK, eq_self, true_and, and_true, e1_0, e1_4, e1_5, e1_6, e1_7, e1_8, e1_9, e1_10, hw96]
        refine hM _ _ ?_
        clear hM M
        refine pops_mv (.inr rfl) rfl (by simp only [St.eval, upd_at, Nat.reduceEqDiff, if_true, if_false, e1_0, e1_4, e1_5, e1_6, e1_7, e1_8, e1_9, e1_10] <;> rfl) ?_
        refine pops_done (hR46 _ ?_)
        clear hR46 R46
        try simp only [thenK, scopeK]
        refine hN45 _ ?_
        clear hN45 N45
        refine pwp_then fun N47 hN47 => ?_
        refine pwp_reg fun R48 hR48 => ?_
        refine pops_mv (.inl rfl) rfl (by simp only [St.eval, upd_at, Nat.reduceEqDiff, if_true, if_false, e1_0, e1_4, e1_5, e1_6, e1_7, e1_8, e1_9, e1_10] <;> rfl) ?_
        refine pops_to rfl fun M hM => ?_
        simp only [pop, St.eval, constSlot, upd_at, Nat.reduceEqDiff, if_true, if_false, popBin, binK, intK, strK, eqK, eq_self, true_and, and_true, e1_0, e1_4, e1_5, e1_6, e1_7, e1_8, e1_9, e1_10]
        refine hM _ _ ?_
        clear hM M
        refine pops_done (hR48 _ ?_)
        clear hR48 R48
        try simp only [thenK, scopeK]
        refine hN47 _ ?_
        clear hN47 N47
        refine pwp_cond (by simp only [St.eval, upd_at, Nat.reduceEqDiff, if_true, if_false, e1_0, e1_4, e1_5, e1_6, e1_7, e1_8, e1_9, e1_10] <;> rfl) (fun c98 => ?_) (fun c98 => ?_)
        ·skip
         have h98 : 4611686018427387904 < sum + (numV (t.takeWhile digitB) * US.getD q 1) := by have := of_decide_eq_true c98; omega
         have hadd : addV tot (timesV (numV (t.takeWhile digitB)) (US.getD q 1)) = 4611686018427387905 := by rw [htv, addV, if_pos (by show 4611686018427387904 < tot ∨ 4611686018427387904 - tot < (numV (t.takeWhile digitB) * US.getD q 1); omega)]
         refine pwp_then fun N49 hN49 => ?_
         refine pwp_reg fun R50 hR50 => ?_
         refine pops_mv (.inr rfl) rfl (by simp only [St.eval, constSlot] <;> rfl) ?_
         refine pops_done (hR50 _ ?_)
         clear hR50 R50
         try simp only [thenK, scopeK]
         refine hN49 _ ?_
         clear hN49 N49
         refine pwp_reg fun R51 hR51 => ?_
         refine pops_mv (.inr rfl) rfl (by simp only [St.eval, constSlot] <;> rfl) ?_
         refine pops_done (hR51 _ ?_)
         clear hR51 R51
         try simp only [thenK, scopeK]
         refine hN39 _ ?_
         clear hN39 N39
         refine pwp_dreg 6 mixed (by decide +kernel) fun R52 hR52 => ?_
         simp only [List.take_succ_cons, List.take_zero, List.drop_succ_cons, List.drop_zero]
         apply lex_to
         · rfl
         ·intro h' s' M hM
          simp only [pop, St.eval, constSlot, upd_at, Nat.reduceEqDiff, if_true, if_false, eq_self, true_and, and_true, str_list, str_size, str_app, str_cut, str_get, e1_0, e1_4, e1_5, e1_6, e1_7, e1_8, e1_9, e1_10, s'.1]
          exact hM _ (.refl _)
         apply lex_to
         · rfl
         ·intro h' s' M hM
          simp only [pop, St.eval, constSlot, upd_at, Nat.reduceEqDiff, if_true, if_false, eq_self, true_and, and_true, str_list, str_size, str_app, str_cut, str_get, e1_0, e1_4, e1_5, e1_6, e1_7, e1_8, e1_9, e1_10, s'.1]
          exact hM _ (.refl _)
         apply lex_to
         · rfl
         ·intro h' s' M hM
          simp only [pop, St.eval, constSlot, upd_at, Nat.reduceEqDiff, if_true, if_false, eq_self, true_and, and_true, str_list, str_size, str_app, str_cut, str_get, e1_0, e1_4, e1_5, e1_6, e1_7, e1_8, e1_9, e1_10, s'.1]
          exact hM _ (.refl _)
         apply lex_to
         · rfl
         ·intro h' s' M hM
          simp only [pop, St.eval, constSlot, upd_at, Nat.reduceEqDiff, if_true, if_false, popSlice, boundOf, Option.map_none, Option.map_some, Tryd.underlying9, eq_self, true_and, and_true, str_list, str_size, str_app, str_cut, str_get, e1_0, e1_4, e1_5, e1_6, e1_7, e1_8, e1_9, e1_10, Int.toNat_natCast, List.take_length, hcut2, s'.1]
          refine ⟨by omega, by omega, by omega, ?_⟩
          exact hM _ (.refl _)
         apply lex_to
         · rfl
         ·intro h' s' M hM
          simp only [pop, St.eval, constSlot, upd_at, Nat.reduceEqDiff, if_true, if_false, eq_self, true_and, and_true, str_list, str_size, str_app, str_cut, str_get, e1_0, e1_4, e1_5, e1_6, e1_7, e1_8, e1_9, e1_10, s'.1]
          exact hM _ (.refl _)
         apply lex_to
         · rfl
         ·intro h' s' M hM
          simp only [pop, St.eval, constSlot, upd_at, Nat.reduceEqDiff, if_true, if_false, eq_self, true_and, and_true, str_list, str_size, str_app, str_cut, str_get, e1_0, e1_4, e1_5, e1_6, e1_7, e1_8, e1_9, e1_10, s'.1]
          exact hM _ (.refl _)
         refine lex_done fun hq2 sq2 => ?_
         replace sq2 := Same.trans s3 sq2
         refine pops_done (hR52 _ ?_)
         clear hR52 R52
         try simp only [blockK, thenK, scopeK]
         try simp only [thenK, scopeK]
         exact ⟨_, by omega, _, .refl _ _, (t.dropWhile digitB).dropWhile lowB, q + 1, addV tot (timesV (numV (t.takeWhile digitB)) (US.getD q 1)), 0, fu - 1, rfl, by omega, by omega, addV_le _ _, (go_step2 hx0_0 hne hnb hqw hqn).symm.trans hx0_3, by omega, by rw [hadd]; omega, Nat.zero_le _, sq2, by simp only [upd_at, Nat.reduceEqDiff, if_true, if_false, htw.2], by simp only [upd_at, Nat.reduceEqDiff, if_true, if_false, e1_0, e1_4, e1_5, e1_6, e1_7, e1_8, e1_9, e1_10], by simp only [upd_at, Nat.reduceEqDiff, if_true, if_false, e1_0, e1_4, e1_5, e1_6, e1_7, e1_8, e1_9, e1_10], by simp only [upd_at, Nat.reduceEqDiff, if_true, if_false]; rw [show ((q + 1 : Nat) : Int) - 1 = (q : Int) by omega], by first | (simp only [upd_at, Nat.reduceEqDiff, if_true, if_false, e1_7]; done) | (simp only [upd_at, Nat.reduceEqDiff, if_true, if_false, hw96]; done) | (simp only [upd_at, Nat.reduceEqDiff, if_true, if_false]; rfl), by simp only [upd_at, Nat.reduceEqDiff, if_true, if_false, hadd]; rfl⟩
        ·skip
         have h98 : sum + (numV (t.takeWhile digitB) * US.getD q 1) ≤ 4611686018427387904 := by have := of_decide_eq_false c98; omega
         have h8 : decide (4611686018427387904 < addV tot (timesV (numV (t.takeWhile digitB)) (US.getD q 1))) = decide (4611686018427387904 < tot) ∧ (addV tot (timesV (numV (t.takeWhile digitB)) (US.getD q 1)) ≤ 4611686018427387904 → sum + (numV (t.takeWhile digitB) * US.getD q 1) = addV tot (timesV (numV (t.takeWhile digitB)) (US.getD q 1))) := add_ref htv hx0_5 h98 hx0_2
         refine pwp_skip ?_
         try simp only [thenK, scopeK]
         refine hN39 _ ?_
         clear hN39 N39
         refine pwp_dreg 6 mixed (by decide +kernel) fun R53 hR53 => ?_
         simp only [List.take_succ_cons, List.take_zero, List.drop_succ_cons, List.drop_zero]
         apply lex_to
         · rfl
         ·intro h' s' M hM
          simp only [pop, St.eval, constSlot, upd_at, Nat.reduceEqDiff, if_true, if_false, eq_self, true_and, and_true, str_list, str_size, str_app, str_cut, str_get, e1_0, e1_4, e1_5, e1_6, e1_7, e1_8, e1_9, e1_10, s'.1]
          exact hM _ (.refl _)
         apply lex_to
         · rfl
         ·intro h' s' M hM
          simp only [pop, St.eval, constSlot, upd_at, Nat.reduceEqDiff, if_true, if_false, eq_self, true_and, and_true, str_list, str_size, str_app, str_cut, str_get, e1_0, e1_4, e1_5, e1_6, e1_7, e1_8, e1_9, e1_10, s'.1]
          exact hM _ (.refl _)
         apply lex_to
         · rfl
         ·intro h' s' M hM
          simp only [pop, St.eval, constSlot, upd_at, Nat.reduceEqDiff, if_true, if_false, eq_self, true_and, and_true, str_list, str_size, str_app, str_cut, str_get, e1_0, e1_4, e1_5, e1_6, e1_7, e1_8, e1_9, e1_10, s'.1]
          exact hM _ (.refl _)
         apply lex_to
         · rfl
         ·intro h' s' M hM
          simp only [pop, St.eval, constSlot, upd_at, Nat.reduceEqDiff, if_true, if_false, popSlice, boundOf, Option.map_none, Option.map_some, Tryd.underlying9, eq_self, true_and, and_true, str_list, str_size, str_app, str_cut, str_get, e1_0, e1_4, e1_5, e1_6, e1_7, e1_8, e1_9, e1_10, Int.toNat_natCast, List.take_length, hcut2, s'.1]
          refine ⟨by omega, by omega, by omega, ?_⟩
          exact hM _ (.refl _)
         apply lex_to
         · rfl
         ·intro h' s' M hM
          simp only [pop, St.eval, constSlot, upd_at, Nat.reduceEqDiff, if_true, if_false, eq_self, true_and, and_true, str_list, str_size, str_app, str_cut, str_get, e1_0, e1_4, e1_5, e1_6, e1_7, e1_8, e1_9, e1_10, s'.1]
          exact hM _ (.refl _)
         apply lex_to
         · rfl
         ·intro h' s' M hM
          simp only [pop, St.eval, constSlot, upd_at, Nat.reduceEqDiff, if_true, if_false, eq_self, true_and, and_true, str_list, str_size, str_app, str_cut, str_get, e1_0, e1_4, e1_5, e1_6, e1_7, e1_8, e1_9, e1_10, s'.1]
          exact hM _ (.refl _)
         refine lex_done fun hq3 sq3 => ?_
         replace sq3 := Same.trans s3 sq3
         refine pops_done (hR53 _ ?_)
         clear hR53 R53
         try simp only [blockK, thenK, scopeK]
         try simp only [thenK, scopeK]
         exact ⟨_, by omega, _, .refl _ _, (t.dropWhile digitB).dropWhile lowB, q + 1, addV tot (timesV (numV (t.takeWhile digitB)) (US.getD q 1)), sum + (numV (t.takeWhile digitB) * US.getD q 1), fu - 1, rfl, by omega, by omega, addV_le _ _, (go_step2 hx0_0 hne hnb hqw hqn).symm.trans hx0_3, by omega, h8.2, h98, sq3, by simp only [upd_at, Nat.reduceEqDiff, if_true, if_false, htw.2], by simp only [upd_at, Nat.reduceEqDiff, if_true, if_false, e1_0, e1_4, e1_5, e1_6, e1_7, e1_8, e1_9, e1_10], by simp only [upd_at, Nat.reduceEqDiff, if_true, if_false, e1_0, e1_4, e1_5, e1_6, e1_7, e1_8, e1_9, e1_10], by simp only [upd_at, Nat.reduceEqDiff, if_true, if_false]; rw [show ((q + 1 : Nat) : Int) - 1 = (q : Int) by omega], by first | (simp only [upd_at, Nat.reduceEqDiff, if_true, if_false, e1_7]; done) | (simp only [upd_at, Nat.reduceEqDiff, if_true, if_false, hw96]; done) | (simp only [upd_at, Nat.reduceEqDiff, if_true, if_false]; rfl), by simp only [upd_at, Nat.reduceEqDiff, if_true, if_false, h8.1, e1_8]⟩
   ·skip
    have ht0 : t = [] := by simpa using c21
    subst ht0
    have hend := age_end (by omega) hx0_3 hs0
    refine pwp_exit ?_
    try simp only [thenK, blockK, scopeK, if_true, Nat.reduceEqDiff, if_false]
    clear hN13 N13
    try simp only [blockK, scopeK, if_true, Nat.reduceEqDiff, if_false, thenK]
    try simp only [thenK, scopeK]
    refine hN12 _ ?_
    clear hN12 N12
    refine pwp_then fun N54 hN54 => ?_
    refine pwp_then fun N55 hN55 => ?_
    refine pwp_reg fun R56 hR56 => ?_
    refine pops_mv (.inl rfl) rfl (by simp only [St.eval, upd_at, Nat.reduceEqDiff, if_true, if_false, e0_0, e0_4, e0_5, e0_6, e0_7, e0_8] <;> rfl) ?_
    refine pops_done (hR56 _ ?_)
    clear hR56 R56
    try simp only [thenK, scopeK]
    refine hN55 _ ?_
    clear hN55 N55
    refine pwp_cond (by simp only [St.eval, upd_at, Nat.reduceEqDiff, if_true, if_false, e0_0, e0_4, e0_5, e0_6, e0_7, e0_8] <;> rfl) (fun c103 => ?_) (fun c103 => ?_)
    ·skip
     have hov : 4611686018427387904 < tot := of_decide_eq_true c103
     rw [if_pos hov] at hend
     refine pwp_then fun N57 hN57 => ?_
     refine pwp_reg fun R58 hR58 => ?_
     refine pops_mv (.inr rfl) rfl (by simp only [St.eval, constSlot] <;> rfl) ?_
     refine pops_mv (.inr rfl) rfl (by simp only [St.eval, constSlot] <;> rfl) ?_
     refine pops_done (hR58 _ ?_)
     clear hR58 R58
     try simp only [thenK, scopeK]
     refine hN57 _ ?_
     clear hN57 N57
     refine pwp_ret ?_
     simp only [thenK, blockK, scopeK, bodyK]
     clear hN54 N54
     refine ⟨_, rfl, endFun sl0 ?_⟩
     try simp only [upd_at, Nat.reduceEqDiff, if_true, if_false, e0_0, e0_4, e0_5, e0_6, e0_7, e0_8]
     all_goals
      rw [hend]
    ·skip
     have hov : ¬ 4611686018427387904 < tot := of_decide_eq_false c103
     rw [if_neg hov] at hend
     have hst := hx0_5 (by omega)
     have hws : IntKind.i64.wrap ((sum : Nat) : Int) = ((tot : Nat) : Int) := by rw [wrap_i64 (by omega) (by omega), hst]
     refine pwp_skip ?_
     try simp only [thenK, scopeK]
     refine hN54 _ ?_
     clear hN54 N54
     refine pwp_then fun N59 hN59 => ?_
     refine pwp_reg fun R60 hR60 => ?_
     refine pops_mv (.inl rfl) rfl (by simp only [St.eval, upd_at, Nat.reduceEqDiff, if_true, if_false, e0_0, e0_4, e0_5, e0_6, e0_7, e0_8] <;> rfl) ?_
     refine pops_to rfl fun M hM => ?_
     simp only [pop, St.eval, constSlot, upd_at, Nat.reduceEqDiff, if_true, if_false, popConvert, Tryd.underlying73, Tryd.underlying3, eq_self, true_and, and_true, str_list, str_size, str_app, str_cut, str_get, e0_0, e0_4, e0_5, e0_6, e0_7, e0_8, hws]
     refine hM _ _ ?_
     clear hM M
     refine pops_mv (.inr rfl) rfl (by simp only [St.eval, upd_at, Nat.reduceEqDiff, if_true, if_false, e0_0, e0_4, e0_5, e0_6, e0_7, e0_8] <;> rfl) ?_
     refine pops_mv (.inr rfl) rfl (by simp only [St.eval, constSlot] <;> rfl) ?_
     refine pops_done (hR60 _ ?_)
     clear hR60 R60
     try simp only [thenK, scopeK]
     refine hN59 _ ?_
     clear hN59 N59
     refine pwp_ret ?_
     simp only [thenK, blockK, scopeK, bodyK]
     refine ⟨_, rfl, endFun sl0 ?_⟩
     try simp only [upd_at, Nat.reduceEqDiff, if_true, if_false, e0_0, e0_4, e0_5, e0_6, e0_7, e0_8]
     all_goals
      rw [hend]
end Go.Pw
