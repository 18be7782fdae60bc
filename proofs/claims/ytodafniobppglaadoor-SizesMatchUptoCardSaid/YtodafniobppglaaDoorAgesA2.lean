import Derived.Test.YtodafniobppglaaDoorAgesA
namespace Go.Pw
open Go Go.RowKit Go.Proofs
set_option maxRecDepth 100000
set_option linter.unusedSimpArgs false
set_option linter.unusedVariables false
theorem sz3 : szOf Tryd.prog 3 = some 1 := by kernel_rfl

theorem wordB_lt {r : List UInt8} {j : Nat} {p : UInt8 → Bool} (h1 : ∀ c ∈ r.take j, p c = true) (h2 : (decide ((j : Int) < ((r.length : Nat) : Int)) && p (r.getD j 0)) = false) : r.takeWhile p = r.take j ∧ r.dropWhile p = r.drop j := tw_at h1 h2
theorem ur_at {k : Nat} (h : k < 8) : UR[k]? = some [pstr (UW.getD k []), pint (US.getD k 1 : Nat)] ∧ UW[k]? = some (UW.getD k []) := by
  match k, h with
  | 0, _ => exact ⟨rfl, rfl⟩
  | 1, _ => exact ⟨rfl, rfl⟩
  | 2, _ => exact ⟨rfl, rfl⟩
  | 3, _ => exact ⟨rfl, rfl⟩
  | 4, _ => exact ⟨rfl, rfl⟩
  | 5, _ => exact ⟨rfl, rfl⟩
  | 6, _ => exact ⟨rfl, rfl⟩
  | 7, _ => exact ⟨rfl, rfl⟩
theorem us_pos {k : Nat} (h : k < 8) : 0 < US.getD k 1 ∧ US.getD k 1 ≤ 604800000000000 := by
  match k, h with
  | 0, _ => decide
  | 1, _ => decide
  | 2, _ => decide
  | 3, _ => decide
  | 4, _ => decide
  | 5, _ => decide
  | 6, _ => decide
  | 7, _ => decide
theorem find_step {w : List UInt8} {k : Nat} (h : k < 8) (hne : UW.getD k [] ≠ w) : findU w k (8 - k) = findU w (k + 1) (8 - (k + 1)) := by
  obtain ⟨n, hn⟩ : ∃ n, 8 - k = n + 1 := ⟨7 - k, by omega⟩
  rw [hn, findU, if_neg (by rw [(ur_at h).2]; simpa using hne), show n = 8 - (k + 1) by omega]
theorem find_hit {w : List UInt8} {k : Nat} (h : k < 8) (he : UW.getD k [] = w) : findU w k (8 - k) = k := by
  obtain ⟨n, hn⟩ : ∃ n, 8 - k = n + 1 := ⟨7 - k, by omega⟩
  rw [hn, findU, if_pos (by rw [(ur_at h).2, he])]
theorem age_end {f : Nat} {s : List UInt8} {n t : Nat} (hf : 0 < f) (h : ageGo f [] n t = ageGo (s.length + 1) s 0 0) (hs : s ≠ []) : ageR s = if 4611686018427387904 < t then (0, 7) else ((t : Int), 0) := by
  obtain ⟨f', rfl⟩ : ∃ f', f = f' + 1 := ⟨f - 1, by omega⟩
  rw [ageGo, if_pos rfl] at h
  rw [ageR, if_neg hs, ← h]
theorem age_none {s : List UInt8} (h : none = ageGo (s.length + 1) s 0 0) (hs : s ≠ []) : ageR s = (0, 9) := by
  rw [ageR, if_neg hs, ← h]
theorem tw_mem {p : UInt8 → Bool} : ∀ {l : List UInt8} {c : UInt8}, c ∈ l.takeWhile p → p c = true
  | [], c, h => by cases h
  | b :: l, c, h => by
    rw [List.takeWhile_cons] at h
    split at h
    · rename_i hb
      rcases List.mem_cons.1 h with rfl | h
      · exact hb
      · exact tw_mem h
    · cases h
theorem tw_len {p : UInt8 → Bool} : ∀ (l : List UInt8), (l.takeWhile p).length ≤ l.length
  | [] => Nat.le_refl _
  | b :: l => by
    rw [List.takeWhile_cons]; split
    · have := tw_len (p := p) l; simp only [List.length_cons]; omega
    · exact Nat.zero_le _
theorem len_step {t : List UInt8} (hb : numBad (t.takeWhile digitB) = false) : ((t.dropWhile digitB).dropWhile letterB).length < t.length :=
  Nat.lt_of_le_of_lt (dropWhile_len _) (dropWhile_lt (by intro e; rw [e] at hb; cases hb))
theorem go_bad {f : Nat} {t : List UInt8} {n x : Nat} (ht : t ≠ []) (h : numBad (t.takeWhile digitB) = true) : ageGo f t n x = none := age_bad1 ht h
theorem go_bad2 {f : Nat} {t : List UInt8} {n x : Nat} (ht : t ≠ []) (h : 8 ≤ findW n ((t.dropWhile digitB).takeWhile letterB)) : ageGo f t n x = none := by
  cases f with
  | zero => rfl
  | succ f =>
    rw [ageGo, if_neg ht]
    split
    · rfl
    · first | rfl | rw [if_pos h]
theorem go_step {f : Nat} {t : List UInt8} {n x k : Nat} (hf : t.length < f) (ht : t ≠ []) (hb : numBad (t.takeWhile digitB) = false) (hk : findW n ((t.dropWhile digitB).takeWhile letterB) = k) (h8 : k < 8) :
    ageGo f t n x = ageGo (f - 1) ((t.dropWhile digitB).dropWhile letterB) (k + 1) (addV x (timesV (numV (t.takeWhile digitB)) (US.getD k 1))) := by
  obtain ⟨f', rfl⟩ : ∃ f', f = f' + 1 := ⟨f - 1, by omega⟩
  rw [ageGo, if_neg ht, hb, if_neg (by decide), hk, if_neg (by omega)]
  rfl
theorem add_big {t x : Nat} (h : (decide ((t : Int) > 4611686018427387904) || decide ((x : Int) > IntKind.i64.wrap (4611686018427387904 - (t : Int)))) = true) (ht : t ≤ 4611686018427387905) : addV t x = 4611686018427387905 := by
  unfold addV
  rw [if_pos]
  rw [wrap_i64 (by omega) (by omega)] at h
  simp only [Bool.or_eq_true, decide_eq_true_eq] at h
  show 4611686018427387904 < t ∨ 4611686018427387904 - t < x
  omega
theorem add_small {t x : Nat} (h : (decide ((t : Int) > 4611686018427387904) || decide ((x : Int) > IntKind.i64.wrap (4611686018427387904 - (t : Int)))) = false) (ht : t ≤ 4611686018427387905) : addV t x = t + x ∧ t + x ≤ 4611686018427387904 := by
  rw [wrap_i64 (by omega) (by omega)] at h
  simp only [Bool.or_eq_false_iff, decide_eq_false_iff_not] at h
  unfold addV
  rw [if_neg]
  · exact ⟨rfl, by omega⟩
  · show ¬ (4611686018427387904 < t ∨ 4611686018427387904 - t < x)
    omega
theorem nm19 : (Tryd.f19.name == "runtime.NumGoroutine") = false := by kernel_rfl
set_option maxHeartbeats 4000000 in
theorem parseAge_fun (W0 : World) (s : List UInt8) (hs : s.length ≤ 9223372036854775806) :
  PFun Tryd.prog W0 19 [.one (pstr s)] (.tup [.one (pint (ageR s).1), .one (pint (ageR s).2)]) := by
 intro h
 refine pcalls1 (n := 91) Tryd.func19 rfl nm19 rfl fun hb => ?_
 refine pwp_then fun N1 hN1 => ?_
 refine pwp_reg fun R2 hR2 => ?_
 refine pops_mv (.inr rfl) rfl (by simp only [St.eval, constSlot] <;> rfl) ?_
 refine pops_mv (.inr rfl) rfl (by simp only [St.eval, constSlot] <;> rfl) ?_
 refine pops_done (hR2 _ ?_)
 clear hR2 R2
 try simp only [thenK, scopeK]
 refine hN1 _ ?_
 clear hN1 N1
 refine pwp_then fun N3 hN3 => ?_
 refine pwp_then fun N4 hN4 => ?_
 refine pwp_reg fun R5 hR5 => ?_
 refine pops_mv (.inl rfl) rfl (by simp only [St.eval, upd_at, Nat.reduceEqDiff, if_true, if_false] <;> rfl) ?_
 refine pops_to rfl fun M hM => ?_
 simp only [pop, St.eval, constSlot, upd_at, Nat.reduceEqDiff, if_true, if_false, popBin, binK, intK, strK, eqK, Tryd.underlying9, isPtr, eq_self, true_and, and_true, str_list, str_size, str_app, str_cut, str_get]
 refine hM _ _ ?_
 clear hM M
 refine pops_done (hR5 _ ?_)
 clear hR5 R5
 try simp only [thenK, scopeK]
 refine hN4 _ ?_
 clear hN4 N4
 refine pwp_cond (by simp only [St.eval, upd_at, Nat.reduceEqDiff, if_true, if_false] <;> rfl) (fun c15 => ?_) (fun c15 => ?_)
 ·skip
  have hs0 : s = [] := by simpa using c15
  refine pwp_then fun N6 hN6 => ?_
  refine pwp_reg fun R7 hR7 => ?_
  refine pops_mv (.inr rfl) rfl (by simp only [St.eval, constSlot] <;> rfl) ?_
  refine pops_mv (.inr rfl) rfl (by simp only [St.eval, constSlot] <;> rfl) ?_
  refine pops_done (hR7 _ ?_)
  clear hR7 R7
  try simp only [thenK, scopeK]
  refine hN6 _ ?_
  clear hN6 N6
  refine pwp_ret ?_
  simp only [thenK, blockK, scopeK, bodyK]
  clear hN3 N3
  refine ⟨_, rfl, endFun (Same.refl _) ?_⟩
  try simp only [upd_at, Nat.reduceEqDiff, if_true, if_false]
  all_goals
   rw [hs0]; rfl
 ·skip
  have hs0 : s ≠ [] := by simpa using c15
  refine pwp_skip ?_
  try simp only [thenK, scopeK]
  refine hN3 _ ?_
  clear hN3 N3
  refine pwp_then fun N8 hN8 => ?_
  refine pwp_reg fun R9 hR9 => ?_
  refine pops_to rfl fun M hM => ?_
  simp only [pop, St.eval, constSlot, upd_at, Nat.reduceEqDiff, if_true, if_false, popCall, List.toList_toArray, List.map_cons, List.map_nil, svs, List.mapM_cons, List.mapM_nil, Option.bind_eq_bind, Option.bind_some, Option.pure_def, List.append_nil, List.cons_append, List.nil_append, str_size]
  refine PFun.use (ageUnits_fun W0) fun h1 s1 => hM _ _ ?_
  replace s1 := Same.trans (Same.refl _) s1
  clear hM M
  refine pops_mv (.inr rfl) rfl (by simp only [St.eval, upd_at, Nat.reduceEqDiff, if_true, if_false] <;> rfl) ?_
  refine pops_done (hR9 _ ?_)
  clear hR9 R9
  try simp only [thenK, scopeK]
  refine hN8 _ ?_
  clear hN8 N8
  refine pwp_then fun N10 hN10 => ?_
  refine pwp_reg fun R11 hR11 => ?_
  refine pops_mv (.inr rfl) rfl (by simp only [St.eval, constSlot] <;> rfl) ?_
  refine pops_mv (.inr rfl) rfl (by simp only [St.eval, constSlot] <;> rfl) ?_
  refine pops_done (hR11 _ ?_)
  clear hR11 R11
  try simp only [thenK, scopeK]
  refine hN10 _ ?_
  clear hN10 N10
  refine pwp_then fun N12 hN12 => ?_
  refine pwp_block ?_
  refine pwp_loop (fun k σ => ∃ (t : List UInt8), ∃ (next : Nat), ∃ (tot : Nat), ∃ (fu : Nat), (k = fu) ∧ (t.length < fu) ∧ (next ≤ 8) ∧ (tot ≤ 4611686018427387905) ∧ (ageGo fu t next tot = ageGo (s.length + 1) s 0 0) ∧ (t.length ≤ s.length) ∧ (Same h σ.hp) ∧ (σ.env 0 = .sv (.one (pstr t))) ∧ (σ.env 4 = .sv (.one (.ro true 2 UR))) ∧ (σ.env 5 = .sv (.one (pint (tot : Nat)))) ∧ (σ.env 6 = .sv (.one (pint (next : Nat))))) _ ⟨_, .refl _ _, s, 0, 0, s.length + 1, rfl, ?_⟩ ?_
  · exact ⟨Nat.lt_succ_self _, Nat.zero_le _, Nat.zero_le _, rfl, Nat.le_refl _, s1, by simp only [upd_at, Nat.reduceEqDiff, if_true, if_false], by simp only [upd_at, Nat.reduceEqDiff, if_true, if_false], by simp only [upd_at, Nat.reduceEqDiff, if_true, if_false]; rfl, by simp only [upd_at, Nat.reduceEqDiff, if_true, if_false]; rfl⟩
  ·rintro k ⟨e, hp0⟩ ⟨t, next, tot, fu, hk0, hx0_0, hx0_1, hx0_2, hx0_3, hx0_4, sl0, e0_0, e0_4, e0_5, e0_6⟩
   simp only at sl0 e0_0 e0_4 e0_5 e0_6
   refine pwp_then fun N13 hN13 => ?_
   refine pwp_then fun N14 hN14 => ?_
   refine pwp_reg fun R15 hR15 => ?_
   refine pops_mv (.inl rfl) rfl (by simp only [St.eval, upd_at, Nat.reduceEqDiff, if_true, if_false, e0_0, e0_4, e0_5, e0_6] <;> rfl) ?_
   refine pops_to rfl fun M hM => ?_
   simp only [pop, St.eval, constSlot, upd_at, Nat.reduceEqDiff, if_true, if_false, popBin, binK, intK, strK, eqK, Tryd.underlying9, isPtr, eq_self, true_and, and_true, str_list, str_size, str_app, str_cut, str_get, e0_0, e0_4, e0_5, e0_6]
   refine hM _ _ ?_
   clear hM M
   refine pops_done (hR15 _ ?_)
   clear hR15 R15
   try simp only [thenK, scopeK]
   refine hN14 _ ?_
   clear hN14 N14
   refine pwp_cond (by simp only [St.eval, upd_at, Nat.reduceEqDiff, if_true, if_false, e0_0, e0_4, e0_5, e0_6] <;> rfl) (fun c18 => ?_) (fun c18 => ?_)
   ·skip
    have hne : t ≠ [] := by simpa using c18
    have hdl : (t.dropWhile digitB).length ≤ t.length := dropWhile_len t
    have htl : (t.takeWhile digitB).length ≤ t.length := tw_len t
    refine pwp_skip ?_
    try simp only [thenK, scopeK]
    refine hN13 _ ?_
    clear hN13 N13
    refine pwp_block ?_
    refine pwp_then fun N16 hN16 => ?_
    refine pwp_reg fun R17 hR17 => ?_
    refine pops_mv (.inl rfl) rfl (by simp only [St.eval, upd_at, Nat.reduceEqDiff, if_true, if_false, e0_0, e0_4, e0_5, e0_6] <;> rfl) ?_
    refine pops_to rfl fun M hM => ?_
    simp only [pop, St.eval, constSlot, upd_at, Nat.reduceEqDiff, if_true, if_false, popCall, List.toList_toArray, List.map_cons, List.map_nil, svs, List.mapM_cons, List.mapM_nil, Option.bind_eq_bind, Option.bind_some, Option.pure_def, List.append_nil, List.cons_append, List.nil_append, str_size, e0_0, e0_4, e0_5, e0_6]
    refine PFun.use (leading_fun W0 t (by omega)) fun h2 s2 => hM _ _ ?_
    replace s2 := Same.trans sl0 s2
    clear hM M
    refine pops_mv (.inl rfl) rfl (by simp only [St.eval, upd_at, Nat.reduceEqDiff, if_true, if_false, e0_0, e0_4, e0_5, e0_6] <;> rfl) ?_
    refine pops_to rfl fun M hM => ?_
    simp only [pop, St.eval, constSlot, upd_at, Nat.reduceEqDiff, if_true, if_false, List.getElem?_toArray, List.getElem?_cons_zero, List.getElem?_cons_succ, e0_0, e0_4, e0_5, e0_6]
    refine hM _ _ ?_
    clear hM M
    refine pops_to rfl fun M hM => ?_
    simp only [pop, St.eval, constSlot, upd_at, Nat.reduceEqDiff, if_true, if_false, List.getElem?_toArray, List.getElem?_cons_zero, List.getElem?_cons_succ, e0_0, e0_4, e0_5, e0_6]
    refine hM _ _ ?_
    clear hM M
    refine pops_mv (.inr rfl) rfl (by simp only [St.eval, upd_at, Nat.reduceEqDiff, if_true, if_false, e0_0, e0_4, e0_5, e0_6] <;> rfl) ?_
    refine pops_mv (.inr rfl) rfl (by simp only [St.eval, upd_at, Nat.reduceEqDiff, if_true, if_false, e0_0, e0_4, e0_5, e0_6] <;> rfl) ?_
    refine pops_done (hR17 _ ?_)
    clear hR17 R17
    try simp only [thenK, scopeK]
    refine hN16 _ ?_
    clear hN16 N16
    refine pwp_then fun N18 hN18 => ?_
    refine pwp_reg fun R19 hR19 => ?_
    refine pops_mv (.inl rfl) rfl (by simp only [St.eval, upd_at, Nat.reduceEqDiff, if_true, if_false, e0_0, e0_4, e0_5, e0_6] <;> rfl) ?_
    refine pops_to rfl fun M hM => ?_
    simp only [pop, St.eval, constSlot, upd_at, Nat.reduceEqDiff, if_true, if_false, popCall, List.toList_toArray, List.map_cons, List.map_nil, svs, List.mapM_cons, List.mapM_nil, Option.bind_eq_bind, Option.bind_some, Option.pure_def, List.append_nil, List.cons_append, List.nil_append, str_size, e0_0, e0_4, e0_5, e0_6]
    refine PFun.use (number_fun W0 (t.takeWhile digitB) (by omega) (fun c hc => tw_mem hc)) fun h3 s3 => hM _ _ ?_
    replace s3 := Same.trans s2 s3
    clear hM M
    refine pops_mv (.inl rfl) rfl (by simp only [St.eval, upd_at, Nat.reduceEqDiff, if_true, if_false, e0_0, e0_4, e0_5, e0_6] <;> rfl) ?_
    refine pops_to rfl fun M hM => ?_
    simp only [pop, St.eval, constSlot, upd_at, Nat.reduceEqDiff, if_true, if_false, List.getElem?_toArray, List.getElem?_cons_zero, List.getElem?_cons_succ, e0_0, e0_4, e0_5, e0_6]
    refine hM _ _ ?_
    clear hM M
    refine pops_to rfl fun M hM => ?_
    simp only [pop, St.eval, constSlot, upd_at, Nat.reduceEqDiff, if_true, if_false, List.getElem?_toArray, List.getElem?_cons_zero, List.getElem?_cons_succ, e0_0, e0_4, e0_5, e0_6]
    refine hM _ _ ?_
    clear hM M
    refine pops_mv (.inr rfl) rfl (by simp only [St.eval, upd_at, Nat.reduceEqDiff, if_true, if_false, e0_0, e0_4, e0_5, e0_6] <;> rfl) ?_
    refine pops_mv (.inr rfl) rfl (by simp only [St.eval, upd_at, Nat.reduceEqDiff, if_true, if_false, e0_0, e0_4, e0_5, e0_6] <;> rfl) ?_
    refine pops_done (hR19 _ ?_)
    clear hR19 R19
    try simp only [thenK, scopeK]
    refine hN18 _ ?_
    clear hN18 N18
    refine pwp_then fun N20 hN20 => ?_
    refine pwp_then fun N21 hN21 => ?_
    refine pwp_reg fun R22 hR22 => ?_
    refine pops_mv (.inl rfl) rfl (by simp only [St.eval, upd_at, Nat.reduceEqDiff, if_true, if_false, e0_0, e0_4, e0_5, e0_6] <;> rfl) ?_
    refine pops_to rfl fun M hM => ?_
    simp only [pop, St.eval, constSlot, upd_at, Nat.reduceEqDiff, if_true, if_false, unK, e0_0, e0_4, e0_5, e0_6]
    refine hM _ _ ?_
    clear hM M
    refine pops_done (hR22 _ ?_)
    clear hR22 R22
    try simp only [thenK, scopeK]
    refine hN21 _ ?_
    clear hN21 N21
    refine pwp_cond (by simp only [St.eval, upd_at, Nat.reduceEqDiff, if_true, if_false, e0_0, e0_4, e0_5, e0_6] <;> rfl) (fun c30 => ?_) (fun c30 => ?_)
    ·skip
     have hnb : numBad (t.takeWhile digitB) = true := by simpa using c30
     rw [go_bad hne hnb] at hx0_3
     have hend := age_none hx0_3 hs0
     refine pwp_then fun N23 hN23 => ?_
     refine pwp_reg fun R24 hR24 => ?_
     refine pops_mv (.inr rfl) rfl (by simp only [St.eval, constSlot] <;> rfl) ?_
     refine pops_mv (.inr rfl) rfl (by simp only [St.eval, constSlot] <;> rfl) ?_
     refine pops_done (hR24 _ ?_)
     clear hR24 R24
     try simp only [thenK, scopeK]
     refine hN23 _ ?_
     clear hN23 N23
     refine pwp_ret ?_
     simp only [thenK, blockK, scopeK, bodyK]
     clear hN20 N20 hN12 N12
     refine ⟨_, rfl, endFun s3 ?_⟩
     try simp only [upd_at, Nat.reduceEqDiff, if_true, if_false, e0_0, e0_4, e0_5, e0_6]
     all_goals
      rw [hend]
    ·skip
     have hnb : numBad (t.takeWhile digitB) = false := by simpa using c30
     have hls := len_step hnb
     refine pwp_skip ?_
     try simp only [thenK, scopeK]
     refine hN20 _ ?_
     clear hN20 N20
     refine pwp_then fun N25 hN25 => ?_
     refine pwp_reg fun R26 hR26 => ?_
     refine pops_mv (.inr rfl) rfl (by simp only [St.eval, constSlot] <;> rfl) ?_
     refine pops_done (hR26 _ ?_)
     clear hR26 R26
     try simp only [thenK, scopeK]
     refine hN25 _ ?_
     clear hN25 N25
     refine pwp_then fun N27 hN27 => ?_
     refine pwp_block ?_
     refine pwp_loop (fun k σ => ∃ (j : Nat), (k = (t.dropWhile digitB).length - j) ∧ (j ≤ (t.dropWhile digitB).length) ∧ (∀ c ∈ (t.dropWhile digitB).take j, letterB c = true) ∧ (Same h σ.hp) ∧ (σ.env 4 = .sv (.one (.ro true 2 UR))) ∧ (σ.env 5 = .sv (.one (pint (tot : Nat)))) ∧ (σ.env 6 = .sv (.one (pint (next : Nat)))) ∧ (σ.env 8 = .sv (.one (pstr (t.dropWhile digitB)))) ∧ (σ.env 9 = .sv (.one (pint (numV (t.takeWhile digitB) : Nat)))) ∧ (σ.env 11 = .sv (.one (pint (j : Nat))))) _ ⟨_, .refl _ _, 0, rfl, ?_⟩ ?_
     · exact ⟨Nat.zero_le _, by simp, s3, by simp only [upd_at, Nat.reduceEqDiff, if_true, if_false, e0_0, e0_4, e0_5, e0_6], by simp only [upd_at, Nat.reduceEqDiff, if_true, if_false, e0_0, e0_4, e0_5, e0_6], by simp only [upd_at, Nat.reduceEqDiff, if_true, if_false, e0_0, e0_4, e0_5, e0_6], by simp only [upd_at, Nat.reduceEqDiff, if_true, if_false, e0_0, e0_4, e0_5, e0_6], by simp only [upd_at, Nat.reduceEqDiff, if_true, if_false, hnb, Bool.false_eq_true], by simp only [upd_at, Nat.reduceEqDiff, if_true, if_false]; rfl⟩
     ·rintro k ⟨e, hp1⟩ ⟨j, hk1, hx1_0, hx1_1, sl1, e1_4, e1_5, e1_6, e1_8, e1_9, e1_11⟩
      simp only at sl1 e1_4 e1_5 e1_6 e1_8 e1_9 e1_11
      refine pwp_then fun N28 hN28 => ?_
      refine pwp_then fun N29 hN29 => ?_
      refine pwp_reg fun R30 hR30 => ?_
      refine pops_mv (.inl rfl) rfl (by simp only [St.eval, upd_at, Nat.reduceEqDiff, if_true, if_false, e1_4, e1_5, e1_6, e1_8, e1_9, e1_11] <;> rfl) ?_
      refine pops_mv (.inl rfl) rfl (by simp only [St.eval, upd_at, Nat.reduceEqDiff, if_true, if_false, e1_4, e1_5, e1_6, e1_8, e1_9, e1_11] <;> rfl) ?_
      refine pops_to rfl fun M hM => ?_
      simp only [pop, St.eval, constSlot, upd_at, Nat.reduceEqDiff, if_true, if_false, popCall, List.toList_toArray, List.map_cons, List.map_nil, popBuiltin, popLen, lenOfSlot, List.length_map, Tryd.underlying9, eq_self, true_and, and_true, str_list, str_size, str_app, str_cut, str_get, e1_4, e1_5, e1_6, e1_8, e1_9, e1_11]
      refine hM _ _ ?_
      clear hM M
      refine pops_to rfl fun M hM => ?_
      simp only [pop, St.eval, constSlot, upd_at, Nat.reduceEqDiff, if_true, if_false, popBin, binK, intK, strK, eqK, eq_self, true_and, and_true, e1_4, e1_5, e1_6, e1_8, e1_9, e1_11]
      refine hM _ _ ?_
      clear hM M
      refine pops_mv (.inl rfl) rfl (by simp only [St.eval, upd_at, Nat.reduceEqDiff, if_true, if_false, e1_4, e1_5, e1_6, e1_8, e1_9, e1_11] <;> rfl) ?_
      apply pops_and 5 35 40 [36, 37, 38, 39] (by simp only [upd_at, Nat.reduceEqDiff, if_true, if_false, e1_4, e1_5, e1_6, e1_8, e1_9, e1_11] <;> rfl)
      ·skip
       intro g35_0 J31 hJ31
       simp only [List.take_succ_cons, List.take_zero]
       simp only [anyAt_cons, anyAt_nil] at hJ31
       have hj : j < (t.dropWhile digitB).length := by have := of_decide_eq_true g35_0; omega
       have hx := getD_some hj
       refine pops_mvg (.inl rfl) rfl rfl (by simp only [upd_at, Nat.reduceEqDiff, if_true, if_false, e1_4, e1_5, e1_6, e1_8, e1_9, e1_11, g35_0]) (by simp only [St.eval, upd_at, Nat.reduceEqDiff, if_true, if_false, e1_4, e1_5, e1_6, e1_8, e1_9, e1_11, g35_0] <;> rfl) ?_
       refine pops_mvg (.inl rfl) rfl rfl (by simp only [upd_at, Nat.reduceEqDiff, if_true, if_false, e1_4, e1_5, e1_6, e1_8, e1_9, e1_11, g35_0]) (by simp only [St.eval, upd_at, Nat.reduceEqDiff, if_true, if_false, e1_4, e1_5, e1_6, e1_8, e1_9, e1_11, g35_0] <;> rfl) ?_
       refine pops_do rfl rfl (by simp only [upd_at, Nat.reduceEqDiff, if_true, if_false, e1_4, e1_5, e1_6, e1_8, e1_9, e1_11, g35_0]) fun M hM => ?_
       simp only [pop, St.eval, constSlot, upd_at, Nat.reduceEqDiff, if_true, if_false, popIndex, partK, Tryd.underlying9, eq_self, true_and, and_true, str_list, str_size, str_app, str_cut, str_get, e1_4, e1_5, e1_6, e1_8, e1_9, e1_11, g35_0, hx, Int.toNat_natCast]
       refine ⟨Int.natCast_nonneg _, hM _ _ ?_⟩
       clear hM M
       refine pops_do rfl rfl (by simp only [upd_at, Nat.reduceEqDiff, if_true, if_false, e1_4, e1_5, e1_6, e1_8, e1_9, e1_11, g35_0]) fun M hM => ?_
       simp only [pop, St.eval, constSlot, upd_at, Nat.reduceEqDiff, if_true, if_false, popCall, List.toList_toArray, List.map_cons, List.map_nil, svs, List.mapM_cons, List.mapM_nil, Option.bind_eq_bind, Option.bind_some, Option.pure_def, List.append_nil, List.cons_append, List.nil_append, str_size, e1_4, e1_5, e1_6, e1_8, e1_9, e1_11, g35_0]
       refine PFun.use (letter_fun W0 ((t.dropWhile digitB).getD j 0)) fun h4 s4 => hM _ _ ?_
       replace s4 := Same.trans (Same.refl _) s4
       clear hM M
       refine pops_to rfl fun M hM => ?_
       simp only [pop, St.eval, constSlot, upd_at, Nat.reduceEqDiff, if_true, if_false, popIf, true_implies, false_implies, Bool.true_eq_false, Bool.false_eq_true, reduceCtorEq, true_and, and_true, e1_4, e1_5, e1_6, e1_8, e1_9, e1_11, g35_0]
       refine hM _ _ ?_
       clear hM M
       exact pops_done (hJ31 _ _ s4 (wk_same (wk_any ((wk_any ((wk_any ((wk_any (Wk.refl _ _))))))))))
      ·skip
       intro g35_0 J31 hJ31
       simp only [List.take_succ_cons, List.take_zero]
       simp only [anyAt_cons, anyAt_nil] at hJ31
       refine pops_off (b := false) rfl rfl (by simp only [upd_at, Nat.reduceEqDiff, if_true, if_false, e1_4, e1_5, e1_6, e1_8, e1_9, e1_11, g35_0]) (by decide) ?_
       refine pops_off (b := false) rfl rfl (by simp only [upd_at, Nat.reduceEqDiff, if_true, if_false, e1_4, e1_5, e1_6, e1_8, e1_9, e1_11, g35_0]) (by decide) ?_
       refine pops_off (b := false) rfl rfl (by simp only [upd_at, Nat.reduceEqDiff, if_true, if_false, e1_4, e1_5, e1_6, e1_8, e1_9, e1_11, g35_0]) (by decide) ?_
       refine pops_off (b := false) rfl rfl (by simp only [upd_at, Nat.reduceEqDiff, if_true, if_false, e1_4, e1_5, e1_6, e1_8, e1_9, e1_11, g35_0]) (by decide) ?_
       refine pops_to rfl fun M hM => ?_
       simp only [pop, St.eval, constSlot, upd_at, Nat.reduceEqDiff, if_true, if_false, popIf, true_implies, false_implies, Bool.true_eq_false, Bool.false_eq_true, reduceCtorEq, true_and, and_true, e1_4, e1_5, e1_6, e1_8, e1_9, e1_11, g35_0]
       refine hM _ _ ?_
       clear hM M
       exact pops_done (hJ31 _ _ (Same.refl _) (wk_same (wk_any ((wk_any ((wk_any ((wk_any (Wk.refl _ _))))))))))
      simp only [List.drop_succ_cons, List.drop_zero, anyAt_cons, anyAt_nil]
      intro hj31 sj31
      replace sj31 := Same.trans sl1 sj31
      refine pops_done (hR30 _ ?_)
      clear hR30 R30
      try simp only [thenK, scopeK]
      refine hN29 _ ?_
      clear hN29 N29
      refine pwp_cond (by simp only [St.eval, upd_at, Nat.reduceEqDiff, if_true, if_false, e1_4, e1_5, e1_6, e1_8, e1_9, e1_11] <;> rfl) (fun c40 => ?_) (fun c40 => ?_)
      ·skip
       have hb40 : j < (t.dropWhile digitB).length ∧ letterB ((t.dropWhile digitB).getD j 0) = true := by simpa using c40
       refine pwp_skip ?_
       try simp only [thenK, scopeK]
       refine hN28 _ ?_
       clear hN28 N28
       refine pwp_block ?_
       refine pwp_reg fun R32 hR32 => ?_
       refine pops_mv (.inl rfl) rfl (by simp only [St.eval, upd_at, Nat.reduceEqDiff, if_true, if_false, e1_4, e1_5, e1_6, e1_8, e1_9, e1_11] <;> rfl) ?_
       refine pops_to rfl fun M hM => ?_
       simp only [pop, St.eval, constSlot, upd_at, Nat.reduceEqDiff, if_true, if_false, popBin, binK, intK, strK, eqK, eq_self, true_and, and_true, e1_4, e1_5, e1_6, e1_8, e1_9, e1_11]
       refine hM _ _ ?_
       clear hM M
       refine pops_mv (.inr rfl) rfl (by simp only [St.eval, upd_at, Nat.reduceEqDiff, if_true, if_false, e1_4, e1_5, e1_6, e1_8, e1_9, e1_11] <;> rfl) ?_
       refine pops_done (hR32 _ ?_)
       clear hR32 R32
       try simp only [blockK, thenK, scopeK]
       try simp only [thenK, scopeK]
       exact ⟨_, by omega, _, .refl _ _, j + 1, rfl, by omega, tw_step hb40.1 hx1_1 hb40.2, sj31, by simp only [upd_at, Nat.reduceEqDiff, if_true, if_false, e1_4, e1_5, e1_6, e1_8, e1_9, e1_11], by simp only [upd_at, Nat.reduceEqDiff, if_true, if_false, e1_4, e1_5, e1_6, e1_8, e1_9, e1_11], by simp only [upd_at, Nat.reduceEqDiff, if_true, if_false, e1_4, e1_5, e1_6, e1_8, e1_9, e1_11], by simp only [upd_at, Nat.reduceEqDiff, if_true, if_false, e1_4, e1_5, e1_6, e1_8, e1_9, e1_11], by simp only [upd_at, Nat.reduceEqDiff, if_true, if_false, e1_4, e1_5, e1_6, e1_8, e1_9, e1_11], by simp only [upd_at, Nat.reduceEqDiff, if_true, if_false, e1_11]; rw [wrap_succ (by omega)]⟩
      ·skip
       have htw := tw_at hx1_1 c40
       refine pwp_exit ?_
       try simp only [thenK, blockK, scopeK, if_true, Nat.reduceEqDiff, if_false]
       clear hN28 N28
       try simp only [blockK, scopeK, if_true, Nat.reduceEqDiff, if_false, thenK]
       try simp only [thenK, scopeK]
       refine hN27 _ ?_
       clear hN27 N27
       refine pwp_then fun N33 hN33 => ?_
       refine pwp_reg fun R34 hR34 => ?_
       refine pops_mv (.inl rfl) rfl (by simp only [St.eval, upd_at, Nat.reduceEqDiff, if_true, if_false, e1_4, e1_5, e1_6, e1_8, e1_9, e1_11] <;> rfl) ?_
       refine pops_mv (.inr rfl) rfl (by simp only [St.eval, upd_at, Nat.reduceEqDiff, if_true, if_false, e1_4, e1_5, e1_6, e1_8, e1_9, e1_11] <;> rfl) ?_
       refine pops_done (hR34 _ ?_)
       clear hR34 R34
       try simp only [thenK, scopeK]
       refine hN33 _ ?_
       clear hN33 N33
       refine pwp_then fun N35 hN35 => ?_
       refine pwp_block ?_
       refine pwp_loop (fun k σ => ∃ (q : Nat), (k = 8 - q) ∧ (q ≤ 8) ∧ (next ≤ q) ∧ (findW next ((t.dropWhile digitB).takeWhile letterB) = findU ((t.dropWhile digitB).takeWhile letterB) q (8 - q)) ∧ (Same h σ.hp) ∧ (σ.env 4 = .sv (.one (.ro true 2 UR))) ∧ (σ.env 5 = .sv (.one (pint (tot : Nat)))) ∧ (σ.env 6 = .sv (.one (pint (next : Nat)))) ∧ (σ.env 8 = .sv (.one (pstr (t.dropWhile digitB)))) ∧ (σ.env 9 = .sv (.one (pint (numV (t.takeWhile digitB) : Nat)))) ∧ (σ.env 11 = .sv (.one (pint (j : Nat)))) ∧ (σ.env 12 = .sv (.one (pint (q : Nat))))) _ ⟨_, .refl _ _, next, rfl, ?_⟩ ?_
       · exact ⟨hx0_1, Nat.le_refl _, rfl, sj31, by simp only [upd_at, Nat.reduceEqDiff, if_true, if_false, e1_4, e1_5, e1_6, e1_8, e1_9, e1_11], by simp only [upd_at, Nat.reduceEqDiff, if_true, if_false, e1_4, e1_5, e1_6, e1_8, e1_9, e1_11], by simp only [upd_at, Nat.reduceEqDiff, if_true, if_false, e1_4, e1_5, e1_6, e1_8, e1_9, e1_11], by simp only [upd_at, Nat.reduceEqDiff, if_true, if_false, e1_4, e1_5, e1_6, e1_8, e1_9, e1_11], by simp only [upd_at, Nat.reduceEqDiff, if_true, if_false, e1_4, e1_5, e1_6, e1_8, e1_9, e1_11], by simp only [upd_at, Nat.reduceEqDiff, if_true, if_false, e1_4, e1_5, e1_6, e1_8, e1_9, e1_11], by simp only [upd_at, Nat.reduceEqDiff, if_true, if_false, e1_4, e1_5, e1_6, e1_8, e1_9, e1_11]⟩
       ·rintro k ⟨e, hp2⟩ ⟨q, hk2, hx2_0, hx2_1, hx2_2, sl2, e2_4, e2_5, e2_6, e2_8, e2_9, e2_11, e2_12⟩
        simp only at sl2 e2_4 e2_5 e2_6 e2_8 e2_9 e2_11 e2_12
        refine pwp_then fun N36 hN36 => ?_
        refine pwp_then fun N37 hN37 => ?_
        refine pwp_dreg 15 mixed (by decide +kernel) fun R38 hR38 => ?_
        simp only [List.take_succ_cons, List.take_zero, List.drop_succ_cons, List.drop_zero]
        apply lex_to
        · rfl
        ·intro h' s' M hM
         simp only [pop, St.eval, constSlot, upd_at, Nat.reduceEqDiff, if_true, if_false, eq_self, true_and, and_true, str_list, str_size, str_app, str_cut, str_get, e2_4, e2_5, e2_6, e2_8, e2_9, e2_11, e2_12, s'.1]
         exact hM _ (.refl _)
        apply lex_to
        · rfl
        ·intro h' s' M hM
         simp only [pop, St.eval, constSlot, upd_at, Nat.reduceEqDiff, if_true, if_false, eq_self, true_and, and_true, str_list, str_size, str_app, str_cut, str_get, e2_4, e2_5, e2_6, e2_8, e2_9, e2_11, e2_12, s'.1]
         exact hM _ (.refl _)
        apply lex_to
        · rfl
        ·intro h' s' M hM
         simp only [pop, St.eval, constSlot, upd_at, Nat.reduceEqDiff, if_true, if_false, popCall, List.toList_toArray, List.map_cons, List.map_nil, popBuiltin, popLen, lenOfSlot, List.length_map, Tryd.underlying60, eq_self, true_and, and_true, str_list, str_size, str_app, str_cut, str_get, e2_4, e2_5, e2_6, e2_8, e2_9, e2_11, e2_12, s'.1]
         exact hM _ (.refl _)
        apply lex_to
        · rfl
        ·intro h' s' M hM
         simp only [pop, St.eval, constSlot, upd_at, Nat.reduceEqDiff, if_true, if_false, popBin, binK, intK, strK, eqK, eq_self, true_and, and_true, e2_4, e2_5, e2_6, e2_8, e2_9, e2_11, e2_12, s'.1]
         exact hM _ (.refl _)
        apply lex_to
        · rfl
        ·intro h' s' M hM
         simp only [pop, St.eval, constSlot, upd_at, Nat.reduceEqDiff, if_true, if_false, eq_self, true_and, and_true, str_list, str_size, str_app, str_cut, str_get, e2_4, e2_5, e2_6, e2_8, e2_9, e2_11, e2_12, s'.1]
         exact hM _ (.refl _)
        refine lex_split 48 (by simp only [upd_at, Nat.reduceEqDiff, if_true, if_false, e2_4, e2_5, e2_6, e2_8, e2_9, e2_11, e2_12] <;> rfl) (fun g48_0 => ?_) (fun g48_0 => ?_)
        ·skip
         have hk8 : q < 8 := by have := of_decide_eq_true g48_0; simp only [List.length_cons, List.length_nil] at this; omega
         have hget := (ur_at hk8).1
         apply lex_do
         · rfl
         · rfl
         · simp only [upd_at, Nat.reduceEqDiff, if_true, if_false, e2_4, e2_5, e2_6, e2_8, e2_9, e2_11, e2_12, g48_0]
         ·intro h' s' M hM
          simp only [pop, St.eval, constSlot, upd_at, Nat.reduceEqDiff, if_true, if_false, eq_self, true_and, and_true, str_list, str_size, str_app, str_cut, str_get, e2_4, e2_5, e2_6, e2_8, e2_9, e2_11, e2_12, g48_0, s'.1]
          exact hM _ (.refl _)
         apply lex_do
         · rfl
         · rfl
         · simp only [upd_at, Nat.reduceEqDiff, if_true, if_false, e2_4, e2_5, e2_6, e2_8, e2_9, e2_11, e2_12, g48_0]
         ·intro h' s' M hM
          simp only [pop, St.eval, constSlot, upd_at, Nat.reduceEqDiff, if_true, if_false, eq_self, true_and, and_true, str_list, str_size, str_app, str_cut, str_get, e2_4, e2_5, e2_6, e2_8, e2_9, e2_11, e2_12, g48_0, s'.1]
          exact hM _ (.refl _)
         apply lex_do
         · rfl
         · rfl
         · simp only [upd_at, Nat.reduceEqDiff, if_true, if_false, e2_4, e2_5, e2_6, e2_8, e2_9, e2_11, e2_12, g48_0]
         ·intro h' s' M hM
          simp only [pop, St.eval, constSlot, upd_at, Nat.reduceEqDiff, if_true, if_false, popIndexAddr, Tryd.underlying60, sz68, eq_self, true_and, and_true, str_list, str_size, str_app, str_cut, str_get, e2_4, e2_5, e2_6, e2_8, e2_9, e2_11, e2_12, g48_0, hget, Int.toNat_natCast, s'.1]
          refine ⟨Int.natCast_nonneg _, ?_⟩
          exact hM _ (.refl _)
         apply lex_do
         · rfl
         · rfl
         · simp only [upd_at, Nat.reduceEqDiff, if_true, if_false, e2_4, e2_5, e2_6, e2_8, e2_9, e2_11, e2_12, g48_0]
         ·intro h' s' M hM
          simp only [pop, St.eval, constSlot, upd_at, Nat.reduceEqDiff, if_true, if_false, popFieldAddr, fieldOf, List.drop_succ_cons, List.drop_zero, List.getElem?_toArray, List.getElem?_cons_zero, List.getElem?_cons_succ, Tryd.underlying68, sz9, e2_4, e2_5, e2_6, e2_8, e2_9, e2_11, e2_12, g48_0, s'.1]
          exact ⟨⟨_, rfl⟩, hM _ (.refl _)⟩
         apply lex_do
         · rfl
         · rfl
         · simp only [upd_at, Nat.reduceEqDiff, if_true, if_false, e2_4, e2_5, e2_6, e2_8, e2_9, e2_11, e2_12, g48_0]
         ·intro h' s' M hM
          simp only [pop, St.eval, constSlot, upd_at, Nat.reduceEqDiff, if_true, if_false, popLoad, loadK, isAggD, List.drop_zero, List.getElem?_toArray, List.getElem?_cons_zero, List.getElem?_cons_succ, Bool.false_eq_true, Tryd.underlying9, sz9, eq_self, true_and, and_true, e2_4, e2_5, e2_6, e2_8, e2_9, e2_11, e2_12, g48_0, s'.1]
          exact hM _ (.refl _)
         apply lex_do
         · rfl
         · rfl
         · simp only [upd_at, Nat.reduceEqDiff, if_true, if_false, e2_4, e2_5, e2_6, e2_8, e2_9, e2_11, e2_12, g48_0]
         ·intro h' s' M hM
          simp only [pop, St.eval, constSlot, upd_at, Nat.reduceEqDiff, if_true, if_false, eq_self, true_and, and_true, str_list, str_size, str_app, str_cut, str_get, e2_4, e2_5, e2_6, e2_8, e2_9, e2_11, e2_12, g48_0, s'.1]
          exact hM _ (.refl _)
         apply lex_do
         · rfl
         · rfl
         · simp only [upd_at, Nat.reduceEqDiff, if_true, if_false, e2_4, e2_5, e2_6, e2_8, e2_9, e2_11, e2_12, g48_0]
         ·intro h' s' M hM
          simp only [pop, St.eval, constSlot, upd_at, Nat.reduceEqDiff, if_true, if_false, eq_self, true_and, and_true, str_list, str_size, str_app, str_cut, str_get, e2_4, e2_5, e2_6, e2_8, e2_9, e2_11, e2_12, g48_0, s'.1]
          exact hM _ (.refl _)
         apply lex_do
         · rfl
         · rfl
         · simp only [upd_at, Nat.reduceEqDiff, if_true, if_false, e2_4, e2_5, e2_6, e2_8, e2_9, e2_11, e2_12, g48_0]
         ·intro h' s' M hM
          simp only [pop, St.eval, constSlot, upd_at, Nat.reduceEqDiff, if_true, if_false, popSlice, boundOf, Option.map_none, Option.map_some, Tryd.underlying9, eq_self, true_and, and_true, str_list, str_size, str_app, str_cut, str_get, e2_4, e2_5, e2_6, e2_8, e2_9, e2_11, e2_12, g48_0, Int.toNat_natCast, Int.toNat_zero, List.drop_zero, s'.1]
          refine ⟨by omega, by omega, by omega, ?_⟩
          exact hM _ (.refl _)
         apply lex_do
         · rfl
         · rfl
         · simp only [upd_at, Nat.reduceEqDiff, if_true, if_false, e2_4, e2_5, e2_6, e2_8, e2_9, e2_11, e2_12, g48_0]
         ·intro h' s' M hM
          simp only [pop, St.eval, constSlot, upd_at, Nat.reduceEqDiff, if_true, if_false, popBin, binK, intK, strK, eqK, Tryd.underlying9, isPtr, eq_self, true_and, and_true, str_list, str_size, str_app, str_cut, str_get, e2_4, e2_5, e2_6, e2_8, e2_9, e2_11, e2_12, g48_0, s'.1]
          exact hM _ (.refl _)
         apply lex_to
         · rfl
         ·intro h' s' M hM
          simp only [pop, St.eval, constSlot, upd_at, Nat.reduceEqDiff, if_true, if_false, popIf, true_implies, false_implies, Bool.true_eq_false, Bool.false_eq_true, reduceCtorEq, true_and, and_true, e2_4, e2_5, e2_6, e2_8, e2_9, e2_11, e2_12, g48_0, s'.1]
          exact hM _ (.refl _)
         refine lex_done fun hq sq => ?_
         replace sq := Same.trans sl2 sq
         refine pops_done (hR38 _ ?_)
         clear hR38 R38
         try simp only [thenK, scopeK]
         refine hN37 _ ?_
         clear hN37 N37
         refine pwp_cond (by simp only [St.eval, upd_at, Nat.reduceEqDiff, if_true, if_false, e2_4, e2_5, e2_6, e2_8, e2_9, e2_11, e2_12, g48_0] <;> rfl) (fun c58 => ?_) (fun c58 => ?_)
         ·skip
          have hw58 : UW.getD q [] ≠ ((t.dropWhile digitB).takeWhile letterB) := by rw [htw.1]; simpa using c58
          have hfs := find_step hk8 hw58
          refine pwp_skip ?_
          try simp only [thenK, scopeK]
          refine hN36 _ ?_
          clear hN36 N36
          refine pwp_block ?_
          refine pwp_reg fun R39 hR39 => ?_
          refine pops_mv (.inl rfl) rfl (by simp only [St.eval, upd_at, Nat.reduceEqDiff, if_true, if_false, e2_4, e2_5, e2_6, e2_8, e2_9, e2_11, e2_12, g48_0] <;> rfl) ?_
          refine pops_to rfl fun M hM => ?_
          simp only [pop, St.eval, constSlot, upd_at, Nat.reduceEqDiff, if_true, if_false, popBin, binK, intK, strK, eqK, eq_self, true_and, and_true, e2_4, e2_5, e2_6, e2_8, e2_9, e2_11, e2_12, g48_0]
          refine hM _ _ ?_
          clear hM M
          refine pops_mv (.inr rfl) rfl (by simp only [St.eval, upd_at, Nat.reduceEqDiff, if_true, if_false, e2_4, e2_5, e2_6, e2_8, e2_9, e2_11, e2_12, g48_0] <;> rfl) ?_
          refine pops_done (hR39 _ ?_)
          clear hR39 R39
          try simp only [blockK, thenK, scopeK]
          try simp only [thenK, scopeK]
          exact ⟨_, by omega, _, .refl _ _, q + 1, rfl, by omega, by omega, hx2_2.trans hfs, sq, by simp only [upd_at, Nat.reduceEqDiff, if_true, if_false, e2_4, e2_5, e2_6, e2_8, e2_9, e2_11, e2_12, g48_0], by simp only [upd_at, Nat.reduceEqDiff, if_true, if_false, e2_4, e2_5, e2_6, e2_8, e2_9, e2_11, e2_12, g48_0], by simp only [upd_at, Nat.reduceEqDiff, if_true, if_false, e2_4, e2_5, e2_6, e2_8, e2_9, e2_11, e2_12, g48_0], by simp only [upd_at, Nat.reduceEqDiff, if_true, if_false, e2_4, e2_5, e2_6, e2_8, e2_9, e2_11, e2_12, g48_0], by simp only [upd_at, Nat.reduceEqDiff, if_true, if_false, e2_4, e2_5, e2_6, e2_8, e2_9, e2_11, e2_12, g48_0], by simp only [upd_at, Nat.reduceEqDiff, if_true, if_false, e2_4, e2_5, e2_6, e2_8, e2_9, e2_11, e2_12, g48_0], by simp only [upd_at, Nat.reduceEqDiff, if_true, if_false, e2_12]; rw [wrap_succ (by omega)]⟩
         ·skip
          have hw58 : UW.getD q [] = ((t.dropWhile digitB).takeWhile letterB) := by rw [htw.1]; simpa using c58
          have hfh := find_hit hk8 hw58
          refine pwp_exit ?_
          try simp only [thenK, blockK, scopeK, if_true, Nat.reduceEqDiff, if_false]
          clear hN36 N36
          try simp only [blockK, scopeK, if_true, Nat.reduceEqDiff, if_false, thenK]
          try simp only [thenK, scopeK]
          refine hN35 _ ?_
          clear hN35 N35
          refine pwp_then fun N40 hN40 => ?_
          refine pwp_then fun N41 hN41 => ?_
          refine pwp_reg fun R42 hR42 => ?_
          refine pops_mv (.inl rfl) rfl (by simp only [St.eval, upd_at, Nat.reduceEqDiff, if_true, if_false, e2_4, e2_5, e2_6, e2_8, e2_9, e2_11, e2_12, g48_0] <;> rfl) ?_
          refine pops_mv (.inl rfl) rfl (by simp only [St.eval, upd_at, Nat.reduceEqDiff, if_true, if_false, e2_4, e2_5, e2_6, e2_8, e2_9, e2_11, e2_12, g48_0] <;> rfl) ?_
          refine pops_to rfl fun M hM => ?_
          simp only [pop, St.eval, constSlot, upd_at, Nat.reduceEqDiff, if_true, if_false, popCall, List.toList_toArray, List.map_cons, List.map_nil, popBuiltin, popLen, lenOfSlot, List.length_map, Tryd.underlying60, eq_self, true_and, and_true, str_list, str_size, str_app, str_cut, str_get, e2_4, e2_5, e2_6, e2_8, e2_9, e2_11, e2_12, g48_0]
          refine hM _ _ ?_
          clear hM M
          refine pops_to rfl fun M hM => ?_
          simp only [pop, St.eval, constSlot, upd_at, Nat.reduceEqDiff, if_true, if_false, popBin, binK, intK, strK, eqK, Tryd.underlying3, isPtr, eq_self, true_and, and_true, e2_4, e2_5, e2_6, e2_8, e2_9, e2_11, e2_12, g48_0]
          refine hM _ _ ?_
          clear hM M
          refine pops_done (hR42 _ ?_)
          clear hR42 R42
          try simp only [thenK, scopeK]
          refine hN41 _ ?_
          clear hN41 N41
          refine pwp_cond (by simp only [St.eval, upd_at, Nat.reduceEqDiff, if_true, if_false, e2_4, e2_5, e2_6, e2_8, e2_9, e2_11, e2_12, g48_0] <;> rfl) (fun c64 => ?_) (fun c64 => ?_)
          ·skip
           have hk64 : q = 8 := by have := eq_of_beq c64; simp only [List.length_cons, List.length_nil] at this; omega
           have hf8 : 8 ≤ findW next ((t.dropWhile digitB).takeWhile letterB) := by rw [hx2_2, hk64]; exact Nat.le_refl _
           rw [go_bad2 hne hf8] at hx0_3
           have hend := age_none hx0_3 hs0
           refine pwp_then fun N43 hN43 => ?_
           refine pwp_reg fun R44 hR44 => ?_
           refine pops_mv (.inr rfl) rfl (by simp only [St.eval, constSlot] <;> rfl) ?_
           refine pops_mv (.inr rfl) rfl (by simp only [St.eval, constSlot] <;> rfl) ?_
           refine pops_done (hR44 _ ?_)
           clear hR44 R44
           try simp only [thenK, scopeK]
           refine hN43 _ ?_
           clear hN43 N43
           refine pwp_ret ?_
           simp only [thenK, blockK, scopeK, bodyK]
           clear hN40 N40 hN12 N12
           refine ⟨_, rfl, endFun sq ?_⟩
           try simp only [upd_at, Nat.reduceEqDiff, if_true, if_false, e2_4, e2_5, e2_6, e2_8, e2_9, e2_11, e2_12, g48_0]
           all_goals
            exfalso; omega
          ·skip
           have hk9 : q < 8 := by
             have h1 : q ≠ 8 := by
               rintro rfl
               simp at c64
             omega
           have hfind : findW next ((t.dropWhile digitB).takeWhile letterB) = q := by first | (rw [hx2_2]; exact hfh) | (exfalso; omega)
           have hget2 := (ur_at hk9).1
           refine pwp_skip ?_
           try simp only [thenK, scopeK]
           refine hN40 _ ?_
           clear hN40 N40
           refine pwp_then fun N45 hN45 => ?_
           refine pwp_then fun N46 hN46 => ?_
           refine pwp_reg fun R47 hR47 => ?_
           refine pops_mv (.inl rfl) rfl (by simp only [St.eval, upd_at, Nat.reduceEqDiff, if_true, if_false, e2_4, e2_5, e2_6, e2_8, e2_9, e2_11, e2_12, g48_0] <;> rfl) ?_
           refine pops_mv (.inl rfl) rfl (by simp only [St.eval, upd_at, Nat.reduceEqDiff, if_true, if_false, e2_4, e2_5, e2_6, e2_8, e2_9, e2_11, e2_12, g48_0] <;> rfl) ?_
           refine pops_mv (.inl rfl) rfl (by simp only [St.eval, upd_at, Nat.reduceEqDiff, if_true, if_false, e2_4, e2_5, e2_6, e2_8, e2_9, e2_11, e2_12, g48_0] <;> rfl) ?_
           refine pops_to rfl fun M hM => ?_
           simp only [pop, St.eval, constSlot, upd_at, Nat.reduceEqDiff, if_true, if_false, popIndexAddr, Tryd.underlying60, sz68, eq_self, true_and, and_true, str_list, str_size, str_app, str_cut, str_get, e2_4, e2_5, e2_6, e2_8, e2_9, e2_11, e2_12, g48_0, hget2, Int.toNat_natCast]
           refine ⟨Int.natCast_nonneg _, hM _ _ ?_⟩
           clear hM M
           refine pops_to rfl fun M hM => ?_
           simp only [pop, St.eval, constSlot, upd_at, Nat.reduceEqDiff, if_true, if_false, popFieldAddr, fieldOf, List.drop_succ_cons, List.drop_zero, List.getElem?_toArray, List.getElem?_cons_zero, List.getElem?_cons_succ, Tryd.underlying68, sz3, e2_4, e2_5, e2_6, e2_8, e2_9, e2_11, e2_12, g48_0]
           refine ⟨⟨_, rfl⟩, hM _ _ ?_⟩
           clear hM M
           refine pops_to rfl fun M hM => ?_
           simp only [pop, St.eval, constSlot, upd_at, Nat.reduceEqDiff, if_true, if_false, popLoad, loadK, isAggD, List.drop_zero, List.getElem?_toArray, List.getElem?_cons_zero, List.getElem?_cons_succ, Bool.false_eq_true, Tryd.underlying3, sz3, eq_self, true_and, and_true, e2_4, e2_5, e2_6, e2_8, e2_9, e2_11, e2_12, g48_0]
           refine hM _ _ ?_
           clear hM M
           refine pops_to rfl fun M hM => ?_
           simp only [pop, St.eval, constSlot, upd_at, Nat.reduceEqDiff, if_true, if_false, popCall, List.toList_toArray, List.map_cons, List.map_nil, svs, List.mapM_cons, List.mapM_nil, Option.bind_eq_bind, Option.bind_some, Option.pure_def, List.append_nil, List.cons_append, List.nil_append, str_size, e2_4, e2_5, e2_6, e2_8, e2_9, e2_11, e2_12, g48_0]
           refine PFun.use (times_fun W0 (numV (t.takeWhile digitB)) (US.getD q 1) (us_pos hk9).1 (us_pos hk9).2 (numV_le _)) fun h5 s5 => hM _ _ ?_
           replace s5 := Same.trans sq s5
           clear hM M
           refine pops_mv (.inr rfl) rfl (by simp only [St.eval, upd_at, Nat.reduceEqDiff, if_true, if_false, e2_4, e2_5, e2_6, e2_8, e2_9, e2_11, e2_12, g48_0] <;> rfl) ?_
           refine pops_done (hR47 _ ?_)
           clear hR47 R47
           try simp only [thenK, scopeK]
           refine hN46 _ ?_
           clear hN46 N46
           refine pwp_then fun N48 hN48 => ?_
           refine pwp_reg fun R49 hR49 => ?_
           refine pops_mv (.inl rfl) rfl (by simp only [St.eval, upd_at, Nat.reduceEqDiff, if_true, if_false, e2_4, e2_5, e2_6, e2_8, e2_9, e2_11, e2_12, g48_0] <;> rfl) ?_
           refine pops_to rfl fun M hM => ?_
           simp only [pop, St.eval, constSlot, upd_at, Nat.reduceEqDiff, if_true, if_false, popBin, binK, intK, strK, eqK, eq_self, true_and, and_true, e2_4, e2_5, e2_6, e2_8, e2_9, e2_11, e2_12, g48_0]
           refine hM _ _ ?_
           clear hM M
           refine pops_mv (.inl rfl) rfl (by simp only [St.eval, upd_at, Nat.reduceEqDiff, if_true, if_false, e2_4, e2_5, e2_6, e2_8, e2_9, e2_11, e2_12, g48_0] <;> rfl) ?_
           apply pops_or0 5 74 79 [75, 76, 77, 78] (by simp only [upd_at, Nat.reduceEqDiff, if_true, if_false, e2_4, e2_5, e2_6, e2_8, e2_9, e2_11, e2_12, g48_0] <;> rfl)
           ·skip
            intro g74_1 J50 hJ50
            simp only [List.take_succ_cons, List.take_zero]
            simp only [anyAt_cons, anyAt_nil] at hJ50
            refine pops_mvg (.inl rfl) rfl rfl (by simp only [upd_at, Nat.reduceEqDiff, if_true, if_false, e2_4, e2_5, e2_6, e2_8, e2_9, e2_11, e2_12, g48_0, g74_1]) (by simp only [St.eval, upd_at, Nat.reduceEqDiff, if_true, if_false, e2_4, e2_5, e2_6, e2_8, e2_9, e2_11, e2_12, g48_0, g74_1] <;> rfl) ?_
            refine pops_mvg (.inl rfl) rfl rfl (by simp only [upd_at, Nat.reduceEqDiff, if_true, if_false, e2_4, e2_5, e2_6, e2_8, e2_9, e2_11, e2_12, g48_0, g74_1]) (by simp only [St.eval, upd_at, Nat.reduceEqDiff, if_true, if_false, e2_4, e2_5, e2_6, e2_8, e2_9, e2_11, e2_12, g48_0, g74_1] <;> rfl) ?_
            refine pops_do rfl rfl (by simp only [upd_at, Nat.reduceEqDiff, if_true, if_false, e2_4, e2_5, e2_6, e2_8, e2_9, e2_11, e2_12, g48_0, g74_1]) fun M hM => ?_
            simp only [pop, St.eval, constSlot, upd_at, Nat.reduceEqDiff, if_true, if_false, popBin, binK, intK, strK, eqK, eq_self, true_and, and_true, e2_4, e2_5, e2_6, e2_8, e2_9, e2_11, e2_12, g48_0, g74_1]
            refine hM _ _ ?_
            clear hM M
            refine pops_do rfl rfl (by simp only [upd_at, Nat.reduceEqDiff, if_true, if_false, e2_4, e2_5, e2_6, e2_8, e2_9, e2_11, e2_12, g48_0, g74_1]) fun M hM => ?_
            simp only [pop, St.eval, constSlot, upd_at, Nat.reduceEqDiff, if_true, if_false, popBin, binK, intK, strK, eqK, eq_self, true_and, and_true, e2_4, e2_5, e2_6, e2_8, e2_9, e2_11, e2_12, g48_0, g74_1]
            refine hM _ _ ?_
            clear hM M
            refine pops_to rfl fun M hM => ?_
            simp only [pop, St.eval, constSlot, upd_at, Nat.reduceEqDiff, if_true, if_false, popIf, true_implies, false_implies, Bool.true_eq_false, Bool.false_eq_true, reduceCtorEq, true_and, and_true, e2_4, e2_5, e2_6, e2_8, e2_9, e2_11, e2_12, g48_0, g74_1]
            refine hM _ _ ?_
            clear hM M
            exact pops_done (hJ50 _ (wk_same (wk_any ((wk_any ((wk_any ((wk_any (Wk.refl _ _))))))))))
           ·skip
            intro g74_1 J50 hJ50
            simp only [List.take_succ_cons, List.take_zero]
            simp only [anyAt_cons, anyAt_nil] at hJ50
            refine pops_off (b := true) rfl rfl (by simp only [upd_at, Nat.reduceEqDiff, if_true, if_false, e2_4, e2_5, e2_6, e2_8, e2_9, e2_11, e2_12, g48_0, g74_1]) (by decide) ?_
            refine pops_off (b := true) rfl rfl (by simp only [upd_at, Nat.reduceEqDiff, if_true, if_false, e2_4, e2_5, e2_6, e2_8, e2_9, e2_11, e2_12, g48_0, g74_1]) (by decide) ?_
            refine pops_off (b := true) rfl rfl (by simp only [upd_at, Nat.reduceEqDiff, if_true, if_false, e2_4, e2_5, e2_6, e2_8, e2_9, e2_11, e2_12, g48_0, g74_1]) (by decide) ?_
            refine pops_off (b := true) rfl rfl (by simp only [upd_at, Nat.reduceEqDiff, if_true, if_false, e2_4, e2_5, e2_6, e2_8, e2_9, e2_11, e2_12, g48_0, g74_1]) (by decide) ?_
            refine pops_to rfl fun M hM => ?_
            simp only [pop, St.eval, constSlot, upd_at, Nat.reduceEqDiff, if_true, if_false, popIf, true_implies, false_implies, Bool.true_eq_false, Bool.false_eq_true, reduceCtorEq, true_and, and_true, e2_4, e2_5, e2_6, e2_8, e2_9, e2_11, e2_12, g48_0, g74_1]
            refine hM _ _ ?_
            clear hM M
            exact pops_done (hJ50 _ (wk_same (wk_any ((wk_any ((wk_any ((wk_any (Wk.refl _ _))))))))))
           simp only [List.drop_succ_cons, List.drop_zero, anyAt_cons, anyAt_nil]
           refine pops_done (hR49 _ ?_)
           clear hR49 R49
           try simp only [thenK, scopeK]
           refine hN48 _ ?_
           clear hN48 N48
           refine pwp_cond (by simp only [St.eval, upd_at, Nat.reduceEqDiff, if_true, if_false, e2_4, e2_5, e2_6, e2_8, e2_9, e2_11, e2_12, g48_0] <;> rfl) (fun c79 => ?_) (fun c79 => ?_)
           ·skip
            have hadd := add_big c79 hx0_2
            refine pwp_reg fun R51 hR51 => ?_
            refine pops_mv (.inr rfl) rfl (by simp only [St.eval, constSlot] <;> rfl) ?_
            refine pops_done (hR51 _ ?_)
            clear hR51 R51
            try simp only [thenK, scopeK]
            refine hN45 _ ?_
            clear hN45 N45
            refine pwp_reg fun R52 hR52 => ?_
            refine pops_mv (.inl rfl) rfl (by simp only [St.eval, upd_at, Nat.reduceEqDiff, if_true, if_false, e2_4, e2_5, e2_6, e2_8, e2_9, e2_11, e2_12, g48_0] <;> rfl) ?_
            refine pops_mv (.inl rfl) rfl (by simp only [St.eval, upd_at, Nat.reduceEqDiff, if_true, if_false, e2_4, e2_5, e2_6, e2_8, e2_9, e2_11, e2_12, g48_0] <;> rfl) ?_
            refine pops_to rfl fun M hM => ?_
            simp only [pop, St.eval, constSlot, upd_at, Nat.reduceEqDiff, if_true, if_false, popSlice, boundOf, Option.map_none, Option.map_some, Tryd.underlying9, eq_self, true_and, and_true, str_list, str_size, str_app, str_cut, str_get, e2_4, e2_5, e2_6, e2_8, e2_9, e2_11, e2_12, g48_0, Int.toNat_natCast, List.take_length]
            refine ⟨by omega, by omega, by omega, hM _ _ ?_⟩
            clear hM M
            refine pops_mv (.inl rfl) rfl (by simp only [St.eval, upd_at, Nat.reduceEqDiff, if_true, if_false, e2_4, e2_5, e2_6, e2_8, e2_9, e2_11, e2_12, g48_0] <;> rfl) ?_
            refine pops_to rfl fun M hM => ?_
            simp only [pop, St.eval, constSlot, upd_at, Nat.reduceEqDiff, if_true, if_false, popBin, binK, intK, strK, eqK, eq_self, true_and, and_true, e2_4, e2_5, e2_6, e2_8, e2_9, e2_11, e2_12, g48_0]
            refine hM _ _ ?_
            clear hM M
            refine pops_mv (.inr rfl) rfl (by simp only [St.eval, upd_at, Nat.reduceEqDiff, if_true, if_false, e2_4, e2_5, e2_6, e2_8, e2_9, e2_11, e2_12, g48_0] <;> rfl) ?_
            refine pops_mv (.inr rfl) rfl (by simp only [St.eval, upd_at, Nat.reduceEqDiff, if_true, if_false, e2_4, e2_5, e2_6, e2_8, e2_9, e2_11, e2_12, g48_0] <;> rfl) ?_
            refine pops_done (hR52 _ ?_)
            clear hR52 R52
            try simp only [blockK, thenK, scopeK]
            try simp only [thenK, scopeK]
            exact ⟨_, by omega, _, .refl _ _, (t.dropWhile digitB).dropWhile letterB, q + 1, addV tot (timesV (numV (t.takeWhile digitB)) (US.getD q 1)), fu - 1, rfl, by omega, by omega, addV_le _ _, (go_step hx0_0 hne hnb hfind hk9).symm.trans hx0_3, by omega, s5, by simp only [upd_at, Nat.reduceEqDiff, if_true, if_false, htw.2], by simp only [upd_at, Nat.reduceEqDiff, if_true, if_false, e2_4, e2_5, e2_6, e2_8, e2_9, e2_11, e2_12, g48_0], by first | (simp only [upd_at, Nat.reduceEqDiff, if_true, if_false, hadd]; rfl) | simp only [upd_at, Nat.reduceEqDiff, if_true, if_false, hadd, hw82], by simp only [upd_at, Nat.reduceEqDiff, if_true, if_false, e2_12]; rw [wrap_succ (by omega)]⟩
           ·skip
            obtain ⟨hadd, hle79⟩ := add_small c79 hx0_2
            have hw82 : IntKind.i64.wrap ((tot : Int) + ((timesV (numV (t.takeWhile digitB)) (US.getD q 1)) : Int)) = ((tot + (timesV (numV (t.takeWhile digitB)) (US.getD q 1)) : Nat) : Int) := by rw [wrap_i64 (by omega) (by omega)]; omega
            refine pwp_reg fun R53 hR53 => ?_
            refine pops_mv (.inl rfl) rfl (by simp only [St.eval, upd_at, Nat.reduceEqDiff, if_true, if_false, e2_4, e2_5, e2_6, e2_8, e2_9, e2_11, e2_12, g48_0] <;> rfl) ?_
            refine pops_mv (.inl rfl) rfl (by simp only [St.eval, upd_at, Nat.reduceEqDiff, if_true, if_false, e2_4, e2_5, e2_6, e2_8, e2_9, e2_11, e2_12, g48_0] <;> rfl) ?_
            refine pops_to rfl fun M hM => ?_
            simp only [pop, St.eval, constSlot, upd_at, Nat.reduceEqDiff, if_true, if_false, popBin, binK, intK, strK, eqK, eq_self, true_and, and_true, e2_4, e2_5, e2_6, e2_8, e2_9, e2_11, e2_12, g48_0, hw82]
            refine hM _ _ ?_
            clear hM M
            refine pops_mv (.inr rfl) rfl (by simp only [St.eval, upd_at, Nat.reduceEqDiff, if_true, if_false, e2_4, e2_5, e2_6, e2_8, e2_9, e2_11, e2_12, g48_0] <;> rfl) ?_
            refine pops_done (hR53 _ ?_)
            clear hR53 R53
            try simp only [thenK, scopeK]
            refine hN45 _ ?_
            clear hN45 N45
            refine pwp_reg fun R54 hR54 => ?_
            refine pops_mv (.inl rfl) rfl (by simp only [St.eval, upd_at, Nat.reduceEqDiff, if_true, if_false, e2_4, e2_5, e2_6, e2_8, e2_9, e2_11, e2_12, g48_0] <;> rfl) ?_
            refine pops_mv (.inl rfl) rfl (by simp only [St.eval, upd_at, Nat.reduceEqDiff, if_true, if_false, e2_4, e2_5, e2_6, e2_8, e2_9, e2_11, e2_12, g48_0] <;> rfl) ?_
            refine pops_to rfl fun M hM => ?_
            simp only [pop, St.eval, constSlot, upd_at, Nat.reduceEqDiff, if_true, if_false, popSlice, boundOf, Option.map_none, Option.map_some, Tryd.underlying9, eq_self, true_and, and_true, str_list, str_size, str_app, str_cut, str_get, e2_4, e2_5, e2_6, e2_8, e2_9, e2_11, e2_12, g48_0, Int.toNat_natCast, List.take_length]
            refine ⟨by omega, by omega, by omega, hM _ _ ?_⟩
            clear hM M
            refine pops_mv (.inl rfl) rfl (by simp only [St.eval, upd_at, Nat.reduceEqDiff, if_true, if_false, e2_4, e2_5, e2_6, e2_8, e2_9, e2_11, e2_12, g48_0] <;> rfl) ?_
            refine pops_to rfl fun M hM => ?_
            simp only [pop, St.eval, constSlot, upd_at, Nat.reduceEqDiff, if_true, if_false, popBin, binK, intK, strK, eqK, eq_self, true_and, and_true, e2_4, e2_5, e2_6, e2_8, e2_9, e2_11, e2_12, g48_0]
            refine hM _ _ ?_
            clear hM M
            refine pops_mv (.inr rfl) rfl (by simp only [St.eval, upd_at, Nat.reduceEqDiff, if_true, if_false, e2_4, e2_5, e2_6, e2_8, e2_9, e2_11, e2_12, g48_0] <;> rfl) ?_
            refine pops_mv (.inr rfl) rfl (by simp only [St.eval, upd_at, Nat.reduceEqDiff, if_true, if_false, e2_4, e2_5, e2_6, e2_8, e2_9, e2_11, e2_12, g48_0] <;> rfl) ?_
            refine pops_done (hR54 _ ?_)
            clear hR54 R54
            try simp only [blockK, thenK, scopeK]
            try simp only [thenK, scopeK]
            exact ⟨_, by omega, _, .refl _ _, (t.dropWhile digitB).dropWhile letterB, q + 1, addV tot (timesV (numV (t.takeWhile digitB)) (US.getD q 1)), fu - 1, rfl, by omega, by omega, addV_le _ _, (go_step hx0_0 hne hnb hfind hk9).symm.trans hx0_3, by omega, s5, by simp only [upd_at, Nat.reduceEqDiff, if_true, if_false, htw.2], by simp only [upd_at, Nat.reduceEqDiff, if_true, if_false, e2_4, e2_5, e2_6, e2_8, e2_9, e2_11, e2_12, g48_0], by first | (simp only [upd_at, Nat.reduceEqDiff, if_true, if_false, hadd]; rfl) | simp only [upd_at, Nat.reduceEqDiff, if_true, if_false, hadd, hw82], by simp only [upd_at, Nat.reduceEqDiff, if_true, if_false, e2_12]; rw [wrap_succ (by omega)]⟩
        ·skip
         have hk8n : ¬ q < 8 := by have := of_decide_eq_false g48_0; simp only [List.length_cons, List.length_nil] at this; omega
         refine lex_off (b := false) rfl rfl (by simp only [upd_at, Nat.reduceEqDiff, if_true, if_false, e2_4, e2_5, e2_6, e2_8, e2_9, e2_11, e2_12, g48_0]) (by decide) ?_
         refine lex_off (b := false) rfl rfl (by simp only [upd_at, Nat.reduceEqDiff, if_true, if_false, e2_4, e2_5, e2_6, e2_8, e2_9, e2_11, e2_12, g48_0]) (by decide) ?_
         refine lex_off (b := false) rfl rfl (by simp only [upd_at, Nat.reduceEqDiff, if_true, if_false, e2_4, e2_5, e2_6, e2_8, e2_9, e2_11, e2_12, g48_0]) (by decide) ?_
         refine lex_off (b := false) rfl rfl (by simp only [upd_at, Nat.reduceEqDiff, if_true, if_false, e2_4, e2_5, e2_6, e2_8, e2_9, e2_11, e2_12, g48_0]) (by decide) ?_
         refine lex_off (b := false) rfl rfl (by simp only [upd_at, Nat.reduceEqDiff, if_true, if_false, e2_4, e2_5, e2_6, e2_8, e2_9, e2_11, e2_12, g48_0]) (by decide) ?_
         refine lex_off (b := false) rfl rfl (by simp only [upd_at, Nat.reduceEqDiff, if_true, if_false, e2_4, e2_5, e2_6, e2_8, e2_9, e2_11, e2_12, g48_0]) (by decide) ?_
         refine lex_off (b := false) rfl rfl (by simp only [upd_at, Nat.reduceEqDiff, if_true, if_false, e2_4, e2_5, e2_6, e2_8, e2_9, e2_11, e2_12, g48_0]) (by decide) ?_
         refine lex_off (b := false) rfl rfl (by simp only [upd_at, Nat.reduceEqDiff, if_true, if_false, e2_4, e2_5, e2_6, e2_8, e2_9, e2_11, e2_12, g48_0]) (by decide) ?_
         refine lex_off (b := false) rfl rfl (by simp only [upd_at, Nat.reduceEqDiff, if_true, if_false, e2_4, e2_5, e2_6, e2_8, e2_9, e2_11, e2_12, g48_0]) (by decide) ?_
         apply lex_to
         · rfl
         ·intro h' s' M hM
          simp only [pop, St.eval, constSlot, upd_at, Nat.reduceEqDiff, if_true, if_false, popIf, true_implies, false_implies, Bool.true_eq_false, Bool.false_eq_true, reduceCtorEq, true_and, and_true, e2_4, e2_5, e2_6, e2_8, e2_9, e2_11, e2_12, g48_0, s'.1]
          exact hM _ (.refl _)
         refine lex_done fun hq2 sq2 => ?_
         replace sq2 := Same.trans sl2 sq2
         refine pops_done (hR38 _ ?_)
         clear hR38 R38
         try simp only [thenK, scopeK]
         refine hN37 _ ?_
         clear hN37 N37
         refine pwp_cond_false (by simp only [St.eval, upd_at, Nat.reduceEqDiff, if_true, if_false, e2_4, e2_5, e2_6, e2_8, e2_9, e2_11, e2_12, g48_0] <;> rfl) ?_
         refine pwp_exit ?_
         try simp only [thenK, blockK, scopeK, if_true, Nat.reduceEqDiff, if_false]
         clear hN36 N36
         try simp only [blockK, scopeK, if_true, Nat.reduceEqDiff, if_false, thenK]
         try simp only [thenK, scopeK]
         refine hN35 _ ?_
         clear hN35 N35
         refine pwp_then fun N55 hN55 => ?_
         refine pwp_then fun N56 hN56 => ?_
         refine pwp_reg fun R57 hR57 => ?_
         refine pops_mv (.inl rfl) rfl (by simp only [St.eval, upd_at, Nat.reduceEqDiff, if_true, if_false, e2_4, e2_5, e2_6, e2_8, e2_9, e2_11, e2_12, g48_0] <;> rfl) ?_
         refine pops_mv (.inl rfl) rfl (by simp only [St.eval, upd_at, Nat.reduceEqDiff, if_true, if_false, e2_4, e2_5, e2_6, e2_8, e2_9, e2_11, e2_12, g48_0] <;> rfl) ?_
         refine pops_to rfl fun M hM => ?_
         simp only [pop, St.eval, constSlot, upd_at, Nat.reduceEqDiff, if_true, if_false, popCall, List.toList_toArray, List.map_cons, List.map_nil, popBuiltin, popLen, lenOfSlot, List.length_map, Tryd.underlying60, eq_self, true_and, and_true, str_list, str_size, str_app, str_cut, str_get, e2_4, e2_5, e2_6, e2_8, e2_9, e2_11, e2_12, g48_0]
         refine hM _ _ ?_
         clear hM M
         refine pops_to rfl fun M hM => ?_
         simp only [pop, St.eval, constSlot, upd_at, Nat.reduceEqDiff, if_true, if_false, popBin, binK, intK, strK, eqK, Tryd.underlying3, isPtr, eq_self, true_and, and_true, e2_4, e2_5, e2_6, e2_8, e2_9, e2_11, e2_12, g48_0]
         refine hM _ _ ?_
         clear hM M
         refine pops_done (hR57 _ ?_)
         clear hR57 R57
         try simp only [thenK, scopeK]
         refine hN56 _ ?_
         clear hN56 N56
         refine pwp_cond (by simp only [St.eval, upd_at, Nat.reduceEqDiff, if_true, if_false, e2_4, e2_5, e2_6, e2_8, e2_9, e2_11, e2_12, g48_0] <;> rfl) (fun c64 => ?_) (fun c64 => ?_)
         ·skip
          have hk64 : q = 8 := by have := eq_of_beq c64; simp only [List.length_cons, List.length_nil] at this; omega
          have hf8 : 8 ≤ findW next ((t.dropWhile digitB).takeWhile letterB) := by rw [hx2_2, hk64]; exact Nat.le_refl _
          rw [go_bad2 hne hf8] at hx0_3
          have hend := age_none hx0_3 hs0
          refine pwp_then fun N58 hN58 => ?_
          refine pwp_reg fun R59 hR59 => ?_
          refine pops_mv (.inr rfl) rfl (by simp only [St.eval, constSlot] <;> rfl) ?_
          refine pops_mv (.inr rfl) rfl (by simp only [St.eval, constSlot] <;> rfl) ?_
          refine pops_done (hR59 _ ?_)
          clear hR59 R59
          try simp only [thenK, scopeK]
          refine hN58 _ ?_
          clear hN58 N58
          refine pwp_ret ?_
          simp only [thenK, blockK, scopeK, bodyK]
          clear hN55 N55 hN12 N12
          refine ⟨_, rfl, endFun sq2 ?_⟩
          try simp only [upd_at, Nat.reduceEqDiff, if_true, if_false, e2_4, e2_5, e2_6, e2_8, e2_9, e2_11, e2_12, g48_0]
          all_goals
           rw [hend]
         ·skip
          have hk9 : q < 8 := by
            have h1 : q ≠ 8 := by
              rintro rfl
              simp at c64
            omega
          have hfind : findW next ((t.dropWhile digitB).takeWhile letterB) = q := by first | (rw [hx2_2]; exact hfh) | (exfalso; omega)
          have hget2 := (ur_at hk9).1
          refine pwp_skip ?_
          try simp only [thenK, scopeK]
          refine hN55 _ ?_
          clear hN55 N55
          refine pwp_then fun N60 hN60 => ?_
          refine pwp_then fun N61 hN61 => ?_
          refine pwp_reg fun R62 hR62 => ?_
          refine pops_mv (.inl rfl) rfl (by simp only [St.eval, upd_at, Nat.reduceEqDiff, if_true, if_false, e2_4, e2_5, e2_6, e2_8, e2_9, e2_11, e2_12, g48_0] <;> rfl) ?_
          refine pops_mv (.inl rfl) rfl (by simp only [St.eval, upd_at, Nat.reduceEqDiff, if_true, if_false, e2_4, e2_5, e2_6, e2_8, e2_9, e2_11, e2_12, g48_0] <;> rfl) ?_
          refine pops_mv (.inl rfl) rfl (by simp only [St.eval, upd_at, Nat.reduceEqDiff, if_true, if_false, e2_4, e2_5, e2_6, e2_8, e2_9, e2_11, e2_12, g48_0] <;> rfl) ?_
          refine pops_to rfl fun M hM => ?_
          simp only [pop, St.eval, constSlot, upd_at, Nat.reduceEqDiff, if_true, if_false, popIndexAddr, Tryd.underlying60, sz68, eq_self, true_and, and_true, str_list, str_size, str_app, str_cut, str_get, e2_4, e2_5, e2_6, e2_8, e2_9, e2_11, e2_12, g48_0, hget2, Int.toNat_natCast]
          refine ⟨Int.natCast_nonneg _, hM _ _ ?_⟩
          clear hM M
          refine pops_to rfl fun M hM => ?_
          simp only [pop, St.eval, constSlot, upd_at, Nat.reduceEqDiff, if_true, if_false, popFieldAddr, fieldOf, List.drop_succ_cons, List.drop_zero, List.getElem?_toArray, List.getElem?_cons_zero, List.getElem?_cons_succ, Tryd.underlying68, sz3, e2_4, e2_5, e2_6, e2_8, e2_9, e2_11, e2_12, g48_0]
          refine ⟨⟨_, rfl⟩, hM _ _ ?_⟩
          clear hM M
          refine pops_to rfl fun M hM => ?_
          simp only [pop, St.eval, constSlot, upd_at, Nat.reduceEqDiff, if_true, if_false, popLoad, loadK, isAggD, List.drop_zero, List.getElem?_toArray, List.getElem?_cons_zero, List.getElem?_cons_succ, Bool.false_eq_true, Tryd.underlying3, sz3, eq_self, true_and, and_true, e2_4, e2_5, e2_6, e2_8, e2_9, e2_11, e2_12, g48_0]
          refine hM _ _ ?_
          clear hM M
          refine pops_to rfl fun M hM => ?_
          simp only [pop, St.eval, constSlot, upd_at, Nat.reduceEqDiff, if_true, if_false, popCall, List.toList_toArray, List.map_cons, List.map_nil, svs, List.mapM_cons, List.mapM_nil, Option.bind_eq_bind, Option.bind_some, Option.pure_def, List.append_nil, List.cons_append, List.nil_append, str_size, e2_4, e2_5, e2_6, e2_8, e2_9, e2_11, e2_12, g48_0]
          refine PFun.use (times_fun W0 (numV (t.takeWhile digitB)) (US.getD q 1) (us_pos hk9).1 (us_pos hk9).2 (numV_le _)) fun h6 s6 => hM _ _ ?_
          replace s6 := Same.trans sq2 s6
          clear hM M
          refine pops_mv (.inr rfl) rfl (by simp only [St.eval, upd_at, Nat.reduceEqDiff, if_true, if_false, e2_4, e2_5, e2_6, e2_8, e2_9, e2_11, e2_12, g48_0] <;> rfl) ?_
          refine pops_done (hR62 _ ?_)
          clear hR62 R62
          try simp only [thenK, scopeK]
          refine hN61 _ ?_
          clear hN61 N61
          refine pwp_then fun N63 hN63 => ?_
          refine pwp_reg fun R64 hR64 => ?_
          refine pops_mv (.inl rfl) rfl (by simp only [St.eval, upd_at, Nat.reduceEqDiff, if_true, if_false, e2_4, e2_5, e2_6, e2_8, e2_9, e2_11, e2_12, g48_0] <;> rfl) ?_
          refine pops_to rfl fun M hM => ?_
          simp only [pop, St.eval, constSlot, upd_at, Nat.reduceEqDiff, if_true, if_false, popBin, binK, intK, strK, eqK, eq_self, true_and, and_true, e2_4, e2_5, e2_6, e2_8, e2_9, e2_11, e2_12, g48_0]
          refine hM _ _ ?_
          clear hM M
          refine pops_mv (.inl rfl) rfl (by simp only [St.eval, upd_at, Nat.reduceEqDiff, if_true, if_false, e2_4, e2_5, e2_6, e2_8, e2_9, e2_11, e2_12, g48_0] <;> rfl) ?_
          apply pops_or0 5 74 79 [75, 76, 77, 78] (by simp only [upd_at, Nat.reduceEqDiff, if_true, if_false, e2_4, e2_5, e2_6, e2_8, e2_9, e2_11, e2_12, g48_0] <;> rfl)
          ·skip
           intro g74_1 J65 hJ65
           simp only [List.take_succ_cons, List.take_zero]
           simp only [anyAt_cons, anyAt_nil] at hJ65
           refine pops_mvg (.inl rfl) rfl rfl (by simp only [upd_at, Nat.reduceEqDiff, if_true, if_false, e2_4, e2_5, e2_6, e2_8, e2_9, e2_11, e2_12, g48_0, g74_1]) (by simp only [St.eval, upd_at, Nat.reduceEqDiff, if_true, if_false, e2_4, e2_5, e2_6, e2_8, e2_9, e2_11, e2_12, g48_0, g74_1] <;> rfl) ?_
           refine pops_mvg (.inl rfl) rfl rfl (by simp only [upd_at, Nat.reduceEqDiff, if_true, if_false, e2_4, e2_5, e2_6, e2_8, e2_9, e2_11, e2_12, g48_0, g74_1]) (by simp only [St.eval, upd_at, Nat.reduceEqDiff, if_true, if_false, e2_4, e2_5, e2_6, e2_8, e2_9, e2_11, e2_12, g48_0, g74_1] <;> rfl) ?_
           refine pops_do rfl rfl (by simp only [upd_at, Nat.reduceEqDiff, if_true, if_false, e2_4, e2_5, e2_6, e2_8, e2_9, e2_11, e2_12, g48_0, g74_1]) fun M hM => ?_
           simp only [pop, St.eval, constSlot, upd_at, Nat.reduceEqDiff, if_true, if_false, popBin, binK, intK, strK, eqK, eq_self, true_and, and_true, e2_4, e2_5, e2_6, e2_8, e2_9, e2_11, e2_12, g48_0, g74_1]
           refine hM _ _ ?_
           clear hM M
           refine pops_do rfl rfl (by simp only [upd_at, Nat.reduceEqDiff, if_true, if_false, e2_4, e2_5, e2_6, e2_8, e2_9, e2_11, e2_12, g48_0, g74_1]) fun M hM => ?_
           simp only [pop, St.eval, constSlot, upd_at, Nat.reduceEqDiff, if_true, if_false, popBin, binK, intK, strK, eqK, eq_self, true_and, and_true, e2_4, e2_5, e2_6, e2_8, e2_9, e2_11, e2_12, g48_0, g74_1]
           refine hM _ _ ?_
           clear hM M
           refine pops_to rfl fun M hM => ?_
           simp only [pop, St.eval, constSlot, upd_at, Nat.reduceEqDiff, if_true, if_false, popIf, true_implies, false_implies, Bool.true_eq_false, Bool.false_eq_true, reduceCtorEq, true_and, and_true, e2_4, e2_5, e2_6, e2_8, e2_9, e2_11, e2_12, g48_0, g74_1]
           refine hM _ _ ?_
           clear hM M
           exact pops_done (hJ65 _ (wk_same (wk_any ((wk_any ((wk_any ((wk_any (Wk.refl _ _))))))))))
          ·skip
           intro g74_1 J65 hJ65
           simp only [List.take_succ_cons, List.take_zero]
           simp only [anyAt_cons, anyAt_nil] at hJ65
           refine pops_off (b := true) rfl rfl (by simp only [upd_at, Nat.reduceEqDiff, if_true, if_false, e2_4, e2_5, e2_6, e2_8, e2_9, e2_11, e2_12, g48_0, g74_1]) (by decide) ?_
           refine pops_off (b := true) rfl rfl (by simp only [upd_at, Nat.reduceEqDiff, if_true, if_false, e2_4, e2_5, e2_6, e2_8, e2_9, e2_11, e2_12, g48_0, g74_1]) (by decide) ?_
           refine pops_off (b := true) rfl rfl (by simp only [upd_at, Nat.reduceEqDiff, if_true, if_false, e2_4, e2_5, e2_6, e2_8, e2_9, e2_11, e2_12, g48_0, g74_1]) (by decide) ?_
           refine pops_off (b := true) rfl rfl (by simp only [upd_at, Nat.reduceEqDiff, if_true, if_false, e2_4, e2_5, e2_6, e2_8, e2_9, e2_11, e2_12, g48_0, g74_1]) (by decide) ?_
           refine pops_to rfl fun M hM => ?_
           simp only [pop, St.eval, constSlot, upd_at, Nat.reduceEqDiff, if_true, if_false, popIf, true_implies, false_implies, Bool.true_eq_false, Bool.false_eq_true, reduceCtorEq, true_and, and_true, e2_4, e2_5, e2_6, e2_8, e2_9, e2_11, e2_12, g48_0, g74_1]
           refine hM _ _ ?_
           clear hM M
           exact pops_done (hJ65 _ (wk_same (wk_any ((wk_any ((wk_any ((wk_any (Wk.refl _ _))))))))))
          simp only [List.drop_succ_cons, List.drop_zero, anyAt_cons, anyAt_nil]
          refine pops_done (hR64 _ ?_)
          clear hR64 R64
          try simp only [thenK, scopeK]
          refine hN63 _ ?_
          clear hN63 N63
          refine pwp_cond (by simp only [St.eval, upd_at, Nat.reduceEqDiff, if_true, if_false, e2_4, e2_5, e2_6, e2_8, e2_9, e2_11, e2_12, g48_0] <;> rfl) (fun c79 => ?_) (fun c79 => ?_)
          ·skip
           have hadd := add_big c79 hx0_2
           refine pwp_reg fun R66 hR66 => ?_
           refine pops_mv (.inr rfl) rfl (by simp only [St.eval, constSlot] <;> rfl) ?_
           refine pops_done (hR66 _ ?_)
           clear hR66 R66
           try simp only [thenK, scopeK]
           refine hN60 _ ?_
           clear hN60 N60
           refine pwp_reg fun R67 hR67 => ?_
           refine pops_mv (.inl rfl) rfl (by simp only [St.eval, upd_at, Nat.reduceEqDiff, if_true, if_false, e2_4, e2_5, e2_6, e2_8, e2_9, e2_11, e2_12, g48_0] <;> rfl) ?_
           refine pops_mv (.inl rfl) rfl (by simp only [St.eval, upd_at, Nat.reduceEqDiff, if_true, if_false, e2_4, e2_5, e2_6, e2_8, e2_9, e2_11, e2_12, g48_0] <;> rfl) ?_
           refine pops_to rfl fun M hM => ?_
           simp only [pop, St.eval, constSlot, upd_at, Nat.reduceEqDiff, if_true, if_false, popSlice, boundOf, Option.map_none, Option.map_some, Tryd.underlying9, eq_self, true_and, and_true, str_list, str_size, str_app, str_cut, str_get, e2_4, e2_5, e2_6, e2_8, e2_9, e2_11, e2_12, g48_0, Int.toNat_natCast, List.take_length]
           refine ⟨by omega, by omega, by omega, hM _ _ ?_⟩
           clear hM M
           refine pops_mv (.inl rfl) rfl (by simp only [St.eval, upd_at, Nat.reduceEqDiff, if_true, if_false, e2_4, e2_5, e2_6, e2_8, e2_9, e2_11, e2_12, g48_0] <;> rfl) ?_
           refine pops_to rfl fun M hM => ?_
           simp only [pop, St.eval, constSlot, upd_at, Nat.reduceEqDiff, if_true, if_false, popBin, binK, intK, strK, eqK, eq_self, true_and, and_true, e2_4, e2_5, e2_6, e2_8, e2_9, e2_11, e2_12, g48_0]
           refine hM _ _ ?_
           clear hM M
           refine pops_mv (.inr rfl) rfl (by simp only [St.eval, upd_at, Nat.reduceEqDiff, if_true, if_false, e2_4, e2_5, e2_6, e2_8, e2_9, e2_11, e2_12, g48_0] <;> rfl) ?_
           refine pops_mv (.inr rfl) rfl (by simp only [St.eval, upd_at, Nat.reduceEqDiff, if_true, if_false, e2_4, e2_5, e2_6, e2_8, e2_9, e2_11, e2_12, g48_0] <;> rfl) ?_
           refine pops_done (hR67 _ ?_)
           clear hR67 R67
           try simp only [blockK, thenK, scopeK]
           try simp only [thenK, scopeK]
           exact ⟨_, by omega, _, .refl _ _, (t.dropWhile digitB).dropWhile letterB, q + 1, addV tot (timesV (numV (t.takeWhile digitB)) (US.getD q 1)), fu - 1, rfl, by omega, by omega, addV_le _ _, (go_step hx0_0 hne hnb hfind hk9).symm.trans hx0_3, by omega, s6, by simp only [upd_at, Nat.reduceEqDiff, if_true, if_false, htw.2], by simp only [upd_at, Nat.reduceEqDiff, if_true, if_false, e2_4, e2_5, e2_6, e2_8, e2_9, e2_11, e2_12, g48_0], by first | (simp only [upd_at, Nat.reduceEqDiff, if_true, if_false, hadd]; rfl) | simp only [upd_at, Nat.reduceEqDiff, if_true, if_false, hadd, hw82], by simp only [upd_at, Nat.reduceEqDiff, if_true, if_false, e2_12]; rw [wrap_succ (by omega)]⟩
          ·skip
           obtain ⟨hadd, hle79⟩ := add_small c79 hx0_2
           have hw82 : IntKind.i64.wrap ((tot : Int) + ((timesV (numV (t.takeWhile digitB)) (US.getD q 1)) : Int)) = ((tot + (timesV (numV (t.takeWhile digitB)) (US.getD q 1)) : Nat) : Int) := by rw [wrap_i64 (by omega) (by omega)]; omega
           refine pwp_reg fun R68 hR68 => ?_
           refine pops_mv (.inl rfl) rfl (by simp only [St.eval, upd_at, Nat.reduceEqDiff, if_true, if_false, e2_4, e2_5, e2_6, e2_8, e2_9, e2_11, e2_12, g48_0] <;> rfl) ?_
           refine pops_mv (.inl rfl) rfl (by simp only [St.eval, upd_at, Nat.reduceEqDiff, if_true, if_false, e2_4, e2_5, e2_6, e2_8, e2_9, e2_11, e2_12, g48_0] <;> rfl) ?_
           refine pops_to rfl fun M hM => ?_
           simp only [pop, St.eval, constSlot, upd_at, Nat.reduceEqDiff, if_true, if_false, popBin, binK, intK, strK, eqK, eq_self, true_and, and_true, e2_4, e2_5, e2_6, e2_8, e2_9, e2_11, e2_12, g48_0, hw82]
           refine hM _ _ ?_
           clear hM M
           refine pops_mv (.inr rfl) rfl (by simp only [St.eval, upd_at, Nat.reduceEqDiff, if_true, if_false, e2_4, e2_5, e2_6, e2_8, e2_9, e2_11, e2_12, g48_0] <;> rfl) ?_
           refine pops_done (hR68 _ ?_)
           clear hR68 R68
           try simp only [thenK, scopeK]
           refine hN60 _ ?_
           clear hN60 N60
           refine pwp_reg fun R69 hR69 => ?_
           refine pops_mv (.inl rfl) rfl (by simp only [St.eval, upd_at, Nat.reduceEqDiff, if_true, if_false, e2_4, e2_5, e2_6, e2_8, e2_9, e2_11, e2_12, g48_0] <;> rfl) ?_
           refine pops_mv (.inl rfl) rfl (by simp only [St.eval, upd_at, Nat.reduceEqDiff, if_true, if_false, e2_4, e2_5, e2_6, e2_8, e2_9, e2_11, e2_12, g48_0] <;> rfl) ?_
           refine pops_to rfl fun M hM => ?_
           simp only [pop, St.eval, constSlot, upd_at, Nat.reduceEqDiff, if_true, if_false, popSlice, boundOf, Option.map_none, Option.map_some, Tryd.underlying9, eq_self, true_and, and_true, str_list, str_size, str_app, str_cut, str_get, e2_4, e2_5, e2_6, e2_8, e2_9, e2_11, e2_12, g48_0, Int.toNat_natCast, List.take_length]
           refine ⟨by omega, by omega, by omega, hM _ _ ?_⟩
           clear hM M
           refine pops_mv (.inl rfl) rfl (by simp only [St.eval, upd_at, Nat.reduceEqDiff, if_true, if_false, e2_4, e2_5, e2_6, e2_8, e2_9, e2_11, e2_12, g48_0] <;> rfl) ?_
           refine pops_to rfl fun M hM => ?_
           simp only [pop, St.eval, constSlot, upd_at, Nat.reduceEqDiff, if_true, if_false, popBin, binK, intK, strK, eqK, eq_self, true_and, and_true, e2_4, e2_5, e2_6, e2_8, e2_9, e2_11, e2_12, g48_0]
           refine hM _ _ ?_
           clear hM M
           refine pops_mv (.inr rfl) rfl (by simp only [St.eval, upd_at, Nat.reduceEqDiff, if_true, if_false, e2_4, e2_5, e2_6, e2_8, e2_9, e2_11, e2_12, g48_0] <;> rfl) ?_
           refine pops_mv (.inr rfl) rfl (by simp only [St.eval, upd_at, Nat.reduceEqDiff, if_true, if_false, e2_4, e2_5, e2_6, e2_8, e2_9, e2_11, e2_12, g48_0] <;> rfl) ?_
           refine pops_done (hR69 _ ?_)
           clear hR69 R69
           try simp only [blockK, thenK, scopeK]
           try simp only [thenK, scopeK]
           exact ⟨_, by omega, _, .refl _ _, (t.dropWhile digitB).dropWhile letterB, q + 1, addV tot (timesV (numV (t.takeWhile digitB)) (US.getD q 1)), fu - 1, rfl, by omega, by omega, addV_le _ _, (go_step hx0_0 hne hnb hfind hk9).symm.trans hx0_3, by omega, s6, by simp only [upd_at, Nat.reduceEqDiff, if_true, if_false, htw.2], by simp only [upd_at, Nat.reduceEqDiff, if_true, if_false, e2_4, e2_5, e2_6, e2_8, e2_9, e2_11, e2_12, g48_0], by first | (simp only [upd_at, Nat.reduceEqDiff, if_true, if_false, hadd]; rfl) | simp only [upd_at, Nat.reduceEqDiff, if_true, if_false, hadd, hw82], by simp only [upd_at, Nat.reduceEqDiff, if_true, if_false, e2_12]; rw [wrap_succ (by omega)]⟩
   ·skip
    have ht0 : t = [] := by simpa using c18
    subst ht0
    have hend := age_end (by omega) hx0_3 hs0
    refine pwp_exit ?_
    try simp only [thenK, blockK, scopeK, if_true, Nat.reduceEqDiff, if_false]
    clear hN13 N13
    try simp only [blockK, scopeK, if_true, Nat.reduceEqDiff, if_false, thenK]
    try simp only [thenK, scopeK]
    refine hN12 _ ?_
    clear hN12 N12
    refine pwp_then fun N70 hN70 => ?_
    refine pwp_then fun N71 hN71 => ?_
    refine pwp_reg fun R72 hR72 => ?_
    refine pops_mv (.inl rfl) rfl (by simp only [St.eval, upd_at, Nat.reduceEqDiff, if_true, if_false, e0_0, e0_4, e0_5, e0_6] <;> rfl) ?_
    refine pops_to rfl fun M hM => ?_
    simp only [pop, St.eval, constSlot, upd_at, Nat.reduceEqDiff, if_true, if_false, popBin, binK, intK, strK, eqK, eq_self, true_and, and_true, e0_0, e0_4, e0_5, e0_6]
    refine hM _ _ ?_
    clear hM M
    refine pops_done (hR72 _ ?_)
    clear hR72 R72
    try simp only [thenK, scopeK]
    refine hN71 _ ?_
    clear hN71 N71
    refine pwp_cond (by simp only [St.eval, upd_at, Nat.reduceEqDiff, if_true, if_false, e0_0, e0_4, e0_5, e0_6] <;> rfl) (fun c89 => ?_) (fun c89 => ?_)
    ·skip
     have hov : 4611686018427387904 < tot := by have := of_decide_eq_true c89; omega
     rw [if_pos hov] at hend
     refine pwp_then fun N73 hN73 => ?_
     refine pwp_reg fun R74 hR74 => ?_
     refine pops_mv (.inr rfl) rfl (by simp only [St.eval, constSlot] <;> rfl) ?_
     refine pops_mv (.inr rfl) rfl (by simp only [St.eval, constSlot] <;> rfl) ?_
     refine pops_done (hR74 _ ?_)
     clear hR74 R74
     try simp only [thenK, scopeK]
     refine hN73 _ ?_
     clear hN73 N73
     refine pwp_ret ?_
     simp only [thenK, blockK, scopeK, bodyK]
     clear hN70 N70
     refine ⟨_, rfl, endFun sl0 ?_⟩
     try simp only [upd_at, Nat.reduceEqDiff, if_true, if_false, e0_0, e0_4, e0_5, e0_6]
     all_goals
      rw [hend]
    ·skip
     have hov : ¬ 4611686018427387904 < tot := by have := of_decide_eq_false c89; omega
     rw [if_neg hov] at hend
     refine pwp_skip ?_
     try simp only [thenK, scopeK]
     refine hN70 _ ?_
     clear hN70 N70
     refine pwp_then fun N75 hN75 => ?_
     refine pwp_reg fun R76 hR76 => ?_
     refine pops_mv (.inl rfl) rfl (by simp only [St.eval, upd_at, Nat.reduceEqDiff, if_true, if_false, e0_0, e0_4, e0_5, e0_6] <;> rfl) ?_
     refine pops_mv (.inr rfl) rfl (by simp only [St.eval, upd_at, Nat.reduceEqDiff, if_true, if_false, e0_0, e0_4, e0_5, e0_6] <;> rfl) ?_
     refine pops_mv (.inr rfl) rfl (by simp only [St.eval, constSlot] <;> rfl) ?_
     refine pops_done (hR76 _ ?_)
     clear hR76 R76
     try simp only [thenK, scopeK]
     refine hN75 _ ?_
     clear hN75 N75
     refine pwp_ret ?_
     simp only [thenK, blockK, scopeK, bodyK]
     refine ⟨_, rfl, endFun sl0 ?_⟩
     try simp only [upd_at, Nat.reduceEqDiff, if_true, if_false, e0_0, e0_4, e0_5, e0_6]
     all_goals
      rw [hend]
end Go.Pw
