import Derived.Test.YtodafniobppglaaDoorSizeP
namespace Go.Pw
open Go Go.RowKit Go.Proofs
set_option maxRecDepth 100000
set_option linter.unusedSimpArgs false
set_option linter.unusedVariables false
theorem below_gr0 (w : World) (n : Nat) : Below w.heap.size w (w.drewN n) := ⟨rfl, rfl, rfl, Nat.le_refl _, fun _ _ => rfl⟩

theorem hasHP : Has Tryd.prog 55 := ⟨_, Tryd.func55, rfl, by kernel_rfl⟩
theorem hasPrefix_fun (W0 : World) (s p : List UInt8) : PFun Tryd.prog W0 55 [.one (pstr s), .one (pstr p)] (.sv (.one (pbool (Lib.hasPrefix s p)))) :=
  pfun_same (P := Tryd.prog) (vals := [.string ⟨s.toArray⟩, .string ⟨p.toArray⟩]) hasHP rfl fun w _ => by
    have := Tryd.strings_HasPrefix ⟨s.toArray⟩ ⟨p.toArray⟩ w
    simpa using this
theorem hasIB : Has Tryd.prog 56 := ⟨_, Tryd.func56, rfl, by kernel_rfl⟩
theorem indexByte_fun (W0 : World) (s : List UInt8) (c : UInt8) : PFun Tryd.prog W0 56 [.one (pstr s), .one (.val (.int .u8 c.toNat))] (.sv (.one (pint (Lib.indexByte s c)))) :=
  pfun_same (P := Tryd.prog) (vals := [.string ⟨s.toArray⟩, .int .u8 c.toNat]) hasIB rfl fun w _ => by
    have := Tryd.strings_IndexByte ⟨s.toArray⟩ c.toNat w
    simpa using this
theorem hasTrim : Has Tryd.prog 58 := ⟨_, Tryd.func58, rfl, by kernel_rfl⟩
theorem trim_fun (W0 : World) (s : List UInt8) (hs : s.length ≤ 9223372036854775807) : PFun Tryd.prog W0 58 [.one (pstr s), .one (pstr D10)] (.sv (.one (pstr (Lib.trimS s D10)))) := by
  refine pfun_below (vals := [.string ⟨s.toArray⟩, .string ⟨D10.toArray⟩]) hasTrim rfl fun w hb => (Any.strings_Trim_laid Tryd.lays160 (by kernel_rfl) ⟨s.toArray⟩ ⟨D10.toArray⟩ w (by rw [str_size]; exact hs) (by decide) (ascii_of_all (by decide))).mono fun e' w' ⟨h1, h2⟩ => ⟨?_, h2⟩
  rw [h1]
theorem dw_nil {p : UInt8 → Bool} : ∀ {l : List UInt8}, l.dropWhile p = [] ↔ l.all p = true
  | [] => by simp
  | c :: l => by
    rw [List.dropWhile_cons, List.all_cons]
    cases hc : p c with
    | true => simpa using dw_nil (p := p) (l := l)
    | false => simp
theorem trim_all (s : List UInt8) : (Lib.trimS s D10 == []) = s.all digitB := by
  have e : (fun c => D10.contains c) = digitB := funext d10
  unfold Lib.trimS Lib.trimLeftS Lib.trimRightS
  rw [e, Bool.eq_iff_iff, beq_iff_eq, dw_nil, List.all_reverse, ← dw_nil (l := s)]
  constructor
  · intro h
    have h1 := dw_nil.2 h
    rcases hr : s.reverse.dropWhile digitB with _ | ⟨c, r⟩
    · have h2 := dw_nil.1 hr
      rw [List.all_reverse] at h2
      exact dw_nil.2 h2
    · have hc := dw_head hr
      rw [hr] at h
      simp [hc] at h
  · intro h
    have h2 := dw_nil.1 h
    rw [← List.all_reverse] at h2
    rw [dw_nil.2 h2]
    rfl
theorem pfun_tup3 {P : Program} {W0 : World} {f : FuncId} (hf : Has P f) {vals : List Value} {r s t : Value} (hr : r.oneCell' = true) (hs : s.oneCell' = true) (ht : t.oneCell' = true) (H : ∀ w, Below W0.heap.size W0 w → Calls P f vals.toArray w fun e w' => e = .returned (.tuple #[r, s, t]) ∧ Below w.heap.size w w') :
    PFun P W0 f (vals.map fun v => .one (.val v)) (.tup [.one (.val r), .one (.val s), .one (.val t)]) := by
  refine fun h => ⟨hf, fun w m vs R hl hv => ?_⟩
  obtain rfl := svr_vals hl hv
  refine (H w R.below).mono ?_
  rintro e w' ⟨rfl, hb⟩
  refine ⟨_, _, h, m, rfl, ⟨rfl, .refl _⟩, ⟨[r, s, t], rfl, rfl, fun j q u h1 h2 => ?_⟩, R.grow hb, Ext.grow hb⟩
  match j, h1, h2 with
  | 0, h1, h2 => obtain rfl := Option.some.inj h1; obtain rfl := Option.some.inj h2; exact .val _ hr
  | 1, h1, h2 => obtain rfl := Option.some.inj h1; obtain rfl := Option.some.inj h2; exact .val _ hs
  | 2, h1, h2 => obtain rfl := Option.some.inj h1; obtain rfl := Option.some.inj h2; exact .val _ ht
theorem index46 : ∀ (s : List UInt8), (Lib.index s [46] = -1 ∧ s.takeWhile not46 = s ∧ s.dropWhile not46 = []) ∨ (0 ≤ Lib.index s [46] ∧ s.takeWhile not46 = s.take (Lib.index s [46]).toNat ∧ s.dropWhile not46 = 46 :: s.drop ((Lib.index s [46]).toNat + 1))
  | [] => .inl ⟨rfl, rfl, rfl⟩
  | c :: s => by
    rw [index1_cons]
    by_cases hc : c = 46
    · subst hc
      rw [if_pos rfl]
      exact .inr ⟨Int.le_refl _, rfl, rfl⟩
    · have hn : not46 c = true := by unfold not46; simpa using hc
      rw [if_neg hc]
      rcases index46 s with ⟨h1, h2, h3⟩ | ⟨h1, h2, h3⟩
      · refine .inl ⟨by rw [if_pos h1], ?_, ?_⟩
        · rw [List.takeWhile_cons, hn, if_pos rfl, h2]
        · rw [List.dropWhile_cons, hn, if_pos rfl, h3]
      · have e : (Lib.index s [46] + 1).toNat = (Lib.index s [46]).toNat + 1 := by omega
        refine .inr ⟨by rw [if_neg (by omega)]; omega, ?_, ?_⟩
        · rw [if_neg (by omega), e, List.takeWhile_cons, hn, if_pos rfl, h2, List.take_succ_cons]
        · rw [if_neg (by omega), e, List.dropWhile_cons, hn, if_pos rfl, h3, List.drop_succ_cons]
theorem cut46 (s : List UInt8) : Lib.cut s [46] = (s.takeWhile not46, (s.dropWhile not46).tail, s.dropWhile not46 != []) := by
  unfold Lib.cut
  rcases index46 s with ⟨h1, h2, h3⟩ | ⟨h1, h2, h3⟩
  · rw [if_neg (by omega), h2, h3]; rfl
  · rw [if_pos h1, h2, h3]; simp
theorem hasCut : Has Tryd.prog 57 := ⟨_, Tryd.func57, rfl, by kernel_rfl⟩
theorem cut_fun (W0 : World) (hm : HasMax W0) (s : List UInt8) (hs : s.length < 4294967281) : PFun Tryd.prog W0 57 [.one (pstr s), .one (pstr [46])] (.tup [.one (pstr (s.takeWhile not46)), .one (pstr (s.dropWhile not46).tail), .one (pbool (s.dropWhile not46 != []))]) := by
  obtain ⟨mx, hmx⟩ := hm
  refine pfun_tup3 (vals := [.string ⟨s.toArray⟩, .string ⟨#[46]⟩]) hasCut rfl rfl rfl fun w hb => (Tryd.strings_Cut ⟨s.toArray⟩ ⟨#[46]⟩ mx w (by rw [str_size]; exact hs) (cell_below hb hmx)).mono fun e' w' ⟨h1, n, h2⟩ => ⟨?_, h2 ▸ below_gr0 w n⟩
  rw [h1, show (⟨s.toArray⟩ : ByteArray).data.toList = s by simp, show (⟨#[46]⟩ : ByteArray).data.toList = [46] from rfl, cut46]
theorem hp46 (r : List UInt8) : Lib.hasPrefix r [46] = (r.head? == some 46) := by
  cases r with
  | nil => rfl
  | cons c r =>
    rw [Bool.eq_iff_iff]
    simp only [Lib.hasPrefix, List.isPrefixOf, List.head?_cons, Bool.and_true, beq_iff_eq, Option.some.injEq]
    exact eq_comm
theorem ix_suf (c : UInt8) : Lib.indexByte [98, 107, 77, 71, 84] c = sufZ c := all_u8 (Q := fun c => Lib.indexByte [98, 107, 77, 71, 84] c = sufZ c) (by decide +kernel) c
abbrev UNITS : List (Value × Value) := [(.string ⟨#[]⟩, .int .i64 1), (.string ⟨#[98]⟩, .int .i64 1), (.string ⟨#[107]⟩, .int .i64 1024), (.string ⟨#[77]⟩, .int .i64 1048576), (.string ⟨#[71]⟩, .int .i64 1073741824), (.string ⟨#[84]⟩, .int .i64 1099511627776)]
theorem ba_eq (a b : List UInt8) : ((⟨a.toArray⟩ : ByteArray) == ⟨b.toArray⟩) = (a == b) := by
  show ((a.toArray : Array UInt8) == b.toArray) = (a == b)
  simp
theorem units_get (r : List UInt8) : mapGet UNITS ⟨r.toArray⟩ = (unitOf r).map fun u => Value.int .i64 (u : Nat) := by
  have e0 := ba_eq r []
  have e1 := ba_eq r [98]
  have e2 := ba_eq r [107]
  have e3 := ba_eq r [77]
  have e4 := ba_eq r [71]
  have e5 := ba_eq r [84]
  simp only [UNITS, mapGet]
  simp only [show (⟨#[]⟩ : ByteArray) = ⟨([] : List UInt8).toArray⟩ from rfl, show (⟨#[98]⟩ : ByteArray) = ⟨[98].toArray⟩ from rfl, show (⟨#[107]⟩ : ByteArray) = ⟨[107].toArray⟩ from rfl, show (⟨#[77]⟩ : ByteArray) = ⟨[77].toArray⟩ from rfl, show (⟨#[71]⟩ : ByteArray) = ⟨[71].toArray⟩ from rfl, show (⟨#[84]⟩ : ByteArray) = ⟨[84].toArray⟩ from rfl, e0, e1, e2, e3, e4, e5, beq_iff_eq]
  unfold unitOf
  repeat' split
  all_goals rfl
theorem units_look {N : Slot → Prop} (r : List UInt8) (H : N (.tup [.one (pint ((unitOf r).getD 0 : Nat)), .one (pbool (unitOf r).isSome)])) : popLookup Tryd.prog 82 (.sv (.one (.mp UNITS))) (.sv (.one (pstr r))) true N := by
  refine ⟨9, 3, .int .i64 0, Tryd.underlying82, Tryd.underlying9, by kernel_rfl, rfl, ?_⟩
  refine ⟨rfl, ?_⟩
  rw [units_get]
  cases hu : unitOf r with
  | none => rw [hu] at H; exact H
  | some u => rw [hu] at H; exact H
theorem unit_le {r : List UInt8} {u : Nat} (h : unitOf r = some u) : 0 < u ∧ u ≤ 1099511627776 := by
  unfold unitOf at h
  repeat' split at h
  all_goals first | (cases h; done) | (obtain rfl := Option.some.inj h; decide)
theorem frac_at {u : Nat} {F : List UInt8} {j : Nat} {c : UInt8} (h : F[j]? = some c) : fracV u (F.drop j) = (fracV u (F.drop (j + 1)) + (c.toNat - 48) * u) / 10 := by
  obtain ⟨hj, hc⟩ := List.getElem?_eq_some_iff.1 h
  rw [List.drop_eq_getElem_cons hj, hc, fracV]
theorem sizeN_bad {s : List UInt8} (h : numBad (s.takeWhile digitB) = true) : sizeN s = (0, 9) := by rw [sizeN, if_pos h]
theorem sizeN_dot {s : List UInt8} (h : numBad (s.takeWhile digitB) = false) (h2 : (s.dropWhile digitB).head? = some 46) : sizeN s = if (s.dropWhile digitB).tail.takeWhile digitB = [] then (0, 9) else sizeFin (s.takeWhile digitB) ((s.dropWhile digitB).tail.takeWhile digitB) ((s.dropWhile digitB).tail.dropWhile digitB) := by
  rw [sizeN, if_neg (by rw [h]; decide), if_pos h2]
theorem sizeN_int {s : List UInt8} (h : numBad (s.takeWhile digitB) = false) (h2 : (s.dropWhile digitB).head? ≠ some 46) : sizeN s = sizeFin (s.takeWhile digitB) [] (s.dropWhile digitB) := by
  rw [sizeN, if_neg (by rw [h]; decide), if_neg h2]
theorem shl_u (z : Int) (h : 0 ≤ z ∧ z ≤ 4) : 0 ≤ IntKind.i64.wrap (10 * z) ∧ IntKind.u64.wrap (1 * 2 ^ (min (IntKind.i64.wrap (10 * z)).toNat IntKind.u64.bits)) = ((1024 ^ z.toNat : Nat) : Int) := by
  have : z = 0 ∨ z = 1 ∨ z = 2 ∨ z = 3 ∨ z = 4 := by omega
  rcases this with rfl | rfl | rfl | rfl | rfl <;> decide +kernel
theorem bad_prog (w q : List UInt8) : (((w == []) || (!(Lib.trimS w D10 == []))) || (decide (((w.length : Nat) : Int) > 1) && (((w.getD 0 0).toNat : Int) == 48)) || ((q != []) && ((q.tail == []) || (!(Lib.trimS q.tail D10 == []))))) = badR w q := by
  rw [trim_all, trim_all]
  unfold badR
  congr 2
  cases w with
  | nil => rfl
  | cons c w =>
    have e : (((c.toNat : Nat) : Int) == 48) = (c == 48) := all_u8 (Q := fun c => (((c.toNat : Nat) : Int) == 48) = (c == 48)) (by decide +kernel) c
    simp [e]
    congr 1
    exact decide_eq_decide.2 (by omega)
theorem badR_not {w q : List UInt8} (h : badR w q = false) : w ≠ [] ∧ (∀ c ∈ w, digitB c = true) ∧ (∀ c ∈ q.tail, digitB c = true) := by
  unfold badR at h
  simp only [Bool.or_eq_false_iff, Bool.not_eq_false'] at h
  obtain ⟨⟨⟨h1, h2⟩, _⟩, h3⟩ := h
  refine ⟨by simpa using h1, List.all_eq_true.1 h2, ?_⟩
  cases q with
  | nil => simp
  | cons a q =>
    simp at h3
    exact fun c hc => h3.2 c hc
theorem take_last (s : List UInt8) (n : Nat) (h : s.length = n + 1) : s.take n = s.dropLast := by
  rw [List.dropLast_eq_take, h]; rfl
theorem last_get {s : List UInt8} {n : Nat} (h : s.length = n + 1) : s[n]? = some (s.getD n 0) ∧ s.getLast? = some (s.getD n 0) := by
  have h1 := getD_some (s := s) (i := n) (by omega)
  exact ⟨h1, by rw [List.getLast?_eq_getElem?, h, Nat.add_sub_cancel]; exact h1⟩
theorem tw46_len (s : List UInt8) : (s.takeWhile not46).length ≤ s.length ∧ (s.dropWhile not46).tail.length ≤ s.length := by
  have h1 := tw_len (p := not46) s
  have h2 := dropWhile_len (p := not46) s
  rw [List.length_tail]
  omega
theorem strip_len (s : List UInt8) : (stripR s).2.length ≤ s.length := by
  unfold stripR
  split
  · exact Nat.le_refl _
  · split
    · exact Nat.le_refl _
    · simp
theorem nm23 : (Tryd.f23.name == "runtime.NumGoroutine") = false := by kernel_rfl
set_option maxHeartbeats 4000000 in
theorem parseSize_fun (W0 : World) (s : List UInt8) (hs : s.length ≤ 9223372036854775806) :
  PFun Tryd.prog W0 23 [.one (pstr s)] (.tup [.one (pint (sizeN s).1), .one (pint (sizeN s).2)]) := by
 intro h
 have hdl : (s.dropWhile digitB).length ≤ s.length := dropWhile_len s
 have htl : (s.takeWhile digitB).length ≤ s.length := tw_len s
 refine pcalls1 (n := 72) Tryd.func23 rfl nm23 rfl fun hb => ?_
 refine pwp_then fun N1 hN1 => ?_
 refine pwp_reg fun R2 hR2 => ?_
 refine pops_mv (.inr rfl) rfl (by simp only [St.eval, constSlot] <;> rfl) ?_
 refine pops_mv (.inr rfl) rfl (by simp only [St.eval, constSlot] <;> rfl) ?_
 refine pops_done (hR2 _ ?_)
 clear hR2 R2
 try simp only [thenK, scopeK]
 refine hN1 _ ?_
 clear hN1 N1
 refine pwp_then fun N3 hN3 => ?_
 refine pwp_reg fun R4 hR4 => ?_
 refine pops_mv (.inl rfl) rfl (by simp only [St.eval, upd_at, Nat.reduceEqDiff, if_true, if_false] <;> rfl) ?_
 refine pops_to rfl fun M hM => ?_
 simp only [pop, St.eval, constSlot, upd_at, Nat.reduceEqDiff, if_true, if_false, popCall, List.toList_toArray, List.map_cons, List.map_nil, svs, List.mapM_cons, List.mapM_nil, Option.bind_eq_bind, Option.bind_some, Option.pure_def, List.append_nil, List.cons_append, List.nil_append, str_size]
 refine PFun.use (leading_fun W0 s (by omega)) fun h1 s1 => hM _ _ ?_
 replace s1 := Same.trans (Same.refl _) s1
 clear hM M
 refine pops_mv (.inl rfl) rfl (by simp only [St.eval, upd_at, Nat.reduceEqDiff, if_true, if_false] <;> rfl) ?_
 refine pops_to rfl fun M hM => ?_
 simp only [pop, St.eval, constSlot, upd_at, Nat.reduceEqDiff, if_true, if_false, List.getElem?_toArray, List.getElem?_cons_zero, List.getElem?_cons_succ]
 refine hM _ _ ?_
 clear hM M
 refine pops_to rfl fun M hM => ?_
 simp only [pop, St.eval, constSlot, upd_at, Nat.reduceEqDiff, if_true, if_false, List.getElem?_toArray, List.getElem?_cons_zero, List.getElem?_cons_succ]
 refine hM _ _ ?_
 clear hM M
 refine pops_mv (.inr rfl) rfl (by simp only [St.eval, upd_at, Nat.reduceEqDiff, if_true, if_false] <;> rfl) ?_
 refine pops_mv (.inr rfl) rfl (by simp only [St.eval, upd_at, Nat.reduceEqDiff, if_true, if_false] <;> rfl) ?_
 refine pops_done (hR4 _ ?_)
 clear hR4 R4
 try simp only [thenK, scopeK]
 refine hN3 _ ?_
 clear hN3 N3
 refine pwp_then fun N5 hN5 => ?_
 refine pwp_reg fun R6 hR6 => ?_
 refine pops_mv (.inl rfl) rfl (by simp only [St.eval, upd_at, Nat.reduceEqDiff, if_true, if_false] <;> rfl) ?_
 refine pops_to rfl fun M hM => ?_
 simp only [pop, St.eval, constSlot, upd_at, Nat.reduceEqDiff, if_true, if_false, popCall, List.toList_toArray, List.map_cons, List.map_nil, svs, List.mapM_cons, List.mapM_nil, Option.bind_eq_bind, Option.bind_some, Option.pure_def, List.append_nil, List.cons_append, List.nil_append, str_size]
 refine PFun.use (number_fun W0 (s.takeWhile digitB) (by omega) (fun c hc => tw_mem hc)) fun h2 s2 => hM _ _ ?_
 replace s2 := Same.trans s1 s2
 clear hM M
 refine pops_mv (.inl rfl) rfl (by simp only [St.eval, upd_at, Nat.reduceEqDiff, if_true, if_false] <;> rfl) ?_
 refine pops_to rfl fun M hM => ?_
 simp only [pop, St.eval, constSlot, upd_at, Nat.reduceEqDiff, if_true, if_false, List.getElem?_toArray, List.getElem?_cons_zero, List.getElem?_cons_succ]
 refine hM _ _ ?_
 clear hM M
 refine pops_to rfl fun M hM => ?_
 simp only [pop, St.eval, constSlot, upd_at, Nat.reduceEqDiff, if_true, if_false, List.getElem?_toArray, List.getElem?_cons_zero, List.getElem?_cons_succ]
 refine hM _ _ ?_
 clear hM M
 refine pops_mv (.inr rfl) rfl (by simp only [St.eval, upd_at, Nat.reduceEqDiff, if_true, if_false] <;> rfl) ?_
 refine pops_mv (.inr rfl) rfl (by simp only [St.eval, upd_at, Nat.reduceEqDiff, if_true, if_false] <;> rfl) ?_
 refine pops_done (hR6 _ ?_)
 clear hR6 R6
 try simp only [thenK, scopeK]
 refine hN5 _ ?_
 clear hN5 N5
 refine pwp_then fun N7 hN7 => ?_
 refine pwp_then fun N8 hN8 => ?_
 refine pwp_reg fun R9 hR9 => ?_
 refine pops_mv (.inl rfl) rfl (by simp only [St.eval, upd_at, Nat.reduceEqDiff, if_true, if_false] <;> rfl) ?_
 refine pops_to rfl fun M hM => ?_
 simp only [pop, St.eval, constSlot, upd_at, Nat.reduceEqDiff, if_true, if_false, unK]
 refine hM _ _ ?_
 clear hM M
 refine pops_done (hR9 _ ?_)
 clear hR9 R9
 try simp only [thenK, scopeK]
 refine hN8 _ ?_
 clear hN8 N8
 refine pwp_cond (by simp only [St.eval, upd_at, Nat.reduceEqDiff, if_true, if_false] <;> rfl) (fun c24 => ?_) (fun c24 => ?_)
 ·skip
  have hnb : numBad (s.takeWhile digitB) = true := by simpa using c24
  have hend := sizeN_bad hnb
  refine pwp_then fun N10 hN10 => ?_
  refine pwp_reg fun R11 hR11 => ?_
  refine pops_mv (.inr rfl) rfl (by simp only [St.eval, constSlot] <;> rfl) ?_
  refine pops_mv (.inr rfl) rfl (by simp only [St.eval, constSlot] <;> rfl) ?_
  refine pops_done (hR11 _ ?_)
  clear hR11 R11
  try simp only [thenK, scopeK]
  refine hN10 _ ?_
  clear hN10 N10
  refine pwp_ret ?_
  simp only [thenK, blockK, scopeK, bodyK]
  clear hN7 N7
  refine ⟨_, rfl, endFun s2 ?_⟩
  try simp only [upd_at, Nat.reduceEqDiff, if_true, if_false]
  all_goals
   rw [hend]
 ·skip
  have hnb : numBad (s.takeWhile digitB) = false := by simpa using c24
  refine pwp_skip ?_
  try simp only [thenK, scopeK]
  refine hN7 _ ?_
  clear hN7 N7
  refine pwp_then fun N12 hN12 => ?_
  refine pwp_reg fun R13 hR13 => ?_
  refine pops_mv (.inr rfl) rfl (by simp only [St.eval, constSlot] <;> rfl) ?_
  refine pops_done (hR13 _ ?_)
  clear hR13 R13
  try simp only [thenK, scopeK]
  refine hN12 _ ?_
  clear hN12 N12
  refine pwp_then fun N14 hN14 => ?_
  refine pwp_then fun N15 hN15 => ?_
  refine pwp_reg fun R16 hR16 => ?_
  refine pops_mv (.inl rfl) rfl (by simp only [St.eval, upd_at, Nat.reduceEqDiff, if_true, if_false] <;> rfl) ?_
  refine pops_to rfl fun M hM => ?_
  simp only [pop, St.eval, constSlot, upd_at, Nat.reduceEqDiff, if_true, if_false, popCall, List.toList_toArray, List.map_cons, List.map_nil, svs, List.mapM_cons, List.mapM_nil, Option.bind_eq_bind, Option.bind_some, Option.pure_def, List.append_nil, List.cons_append, List.nil_append, str_size]
  refine PFun.use (hasPrefix_fun W0 (s.dropWhile digitB) [46]) fun h3 s3 => hM _ _ ?_
  replace s3 := Same.trans s2 s3
  clear hM M
  refine pops_done (hR16 _ ?_)
  clear hR16 R16
  try simp only [thenK, scopeK]
  refine hN15 _ ?_
  clear hN15 N15
  refine pwp_cond (by simp only [St.eval, upd_at, Nat.reduceEqDiff, if_true, if_false] <;> rfl) (fun c26 => ?_) (fun c26 => ?_)
  ·skip
   rw [hp46] at c26
   have h46 : (s.dropWhile digitB).head? = some 46 := by simpa using c26
   have hrp : 1 ≤ (s.dropWhile digitB).length := by cases hr : (s.dropWhile digitB) with | nil => rw [hr] at h46; cases h46 | cons a b => simp
   have hdot := sizeN_dot hnb h46
   refine pwp_then fun N17 hN17 => ?_
   refine pwp_reg fun R18 hR18 => ?_
   refine pops_mv (.inl rfl) rfl (by simp only [St.eval, upd_at, Nat.reduceEqDiff, if_true, if_false] <;> rfl) ?_
   refine pops_to rfl fun M hM => ?_
   simp only [pop, St.eval, constSlot, upd_at, Nat.reduceEqDiff, if_true, if_false, popSlice, boundOf, Option.map_none, Option.map_some, Tryd.underlying9, eq_self, true_and, and_true, str_list, str_size, str_app, str_cut, str_get, Int.toNat_one, List.drop_one, Int.toNat_natCast, List.take_length]
   refine ⟨by omega, by omega, by omega, hM _ _ ?_⟩
   clear hM M
   refine pops_to rfl fun M hM => ?_
   simp only [pop, St.eval, constSlot, upd_at, Nat.reduceEqDiff, if_true, if_false, popCall, List.toList_toArray, List.map_cons, List.map_nil, svs, List.mapM_cons, List.mapM_nil, Option.bind_eq_bind, Option.bind_some, Option.pure_def, List.append_nil, List.cons_append, List.nil_append, str_size]
   refine PFun.use (leading_fun W0 (s.dropWhile digitB).tail (by rw [List.length_tail]; omega)) fun h4 s4 => hM _ _ ?_
   replace s4 := Same.trans s3 s4
   clear hM M
   refine pops_mv (.inl rfl) rfl (by simp only [St.eval, upd_at, Nat.reduceEqDiff, if_true, if_false] <;> rfl) ?_
   refine pops_to rfl fun M hM => ?_
   simp only [pop, St.eval, constSlot, upd_at, Nat.reduceEqDiff, if_true, if_false, List.getElem?_toArray, List.getElem?_cons_zero, List.getElem?_cons_succ]
   refine hM _ _ ?_
   clear hM M
   refine pops_to rfl fun M hM => ?_
   simp only [pop, St.eval, constSlot, upd_at, Nat.reduceEqDiff, if_true, if_false, List.getElem?_toArray, List.getElem?_cons_zero, List.getElem?_cons_succ]
   refine hM _ _ ?_
   clear hM M
   refine pops_mv (.inr rfl) rfl (by simp only [St.eval, upd_at, Nat.reduceEqDiff, if_true, if_false] <;> rfl) ?_
   refine pops_mv (.inr rfl) rfl (by simp only [St.eval, upd_at, Nat.reduceEqDiff, if_true, if_false] <;> rfl) ?_
   refine pops_done (hR18 _ ?_)
   clear hR18 R18
   try simp only [thenK, scopeK]
   refine hN17 _ ?_
   clear hN17 N17
   refine pwp_then fun N19 hN19 => ?_
   refine pwp_reg fun R20 hR20 => ?_
   refine pops_mv (.inl rfl) rfl (by simp only [St.eval, upd_at, Nat.reduceEqDiff, if_true, if_false] <;> rfl) ?_
   refine pops_to rfl fun M hM => ?_
   simp only [pop, St.eval, constSlot, upd_at, Nat.reduceEqDiff, if_true, if_false, popBin, binK, intK, strK, eqK, Tryd.underlying9, isPtr, eq_self, true_and, and_true, str_list, str_size, str_app, str_cut, str_get]
   refine hM _ _ ?_
   clear hM M
   refine pops_done (hR20 _ ?_)
   clear hR20 R20
   try simp only [thenK, scopeK]
   refine hN19 _ ?_
   clear hN19 N19
   refine pwp_cond (by simp only [St.eval, upd_at, Nat.reduceEqDiff, if_true, if_false] <;> rfl) (fun c34 => ?_) (fun c34 => ?_)
   ·skip
    have hf0 : (s.dropWhile digitB).tail.takeWhile digitB = [] := by simpa using c34
    have hend : sizeN s = (0, 9) := by rw [hdot, if_pos hf0]
    refine pwp_then fun N21 hN21 => ?_
    refine pwp_reg fun R22 hR22 => ?_
    refine pops_mv (.inr rfl) rfl (by simp only [St.eval, constSlot] <;> rfl) ?_
    refine pops_mv (.inr rfl) rfl (by simp only [St.eval, constSlot] <;> rfl) ?_
    refine pops_done (hR22 _ ?_)
    clear hR22 R22
    try simp only [thenK, scopeK]
    refine hN21 _ ?_
    clear hN21 N21
    refine pwp_ret ?_
    simp only [thenK, blockK, scopeK, bodyK]
    clear hN14 N14
    refine ⟨_, rfl, endFun s4 ?_⟩
    try simp only [upd_at, Nat.reduceEqDiff, if_true, if_false]
    all_goals
     rw [hend]
   ·skip
    have hf0 : ¬ (s.dropWhile digitB).tail.takeWhile digitB = [] := by simpa using c34
    have hfin : sizeN s = sizeFin (s.takeWhile digitB) ((s.dropWhile digitB).tail.takeWhile digitB) ((s.dropWhile digitB).tail.dropWhile digitB) := by rw [hdot, if_neg hf0]
    obtain ⟨F, hF⟩ : ∃ F : List UInt8, F = (s.dropWhile digitB).tail.takeWhile digitB := ⟨_, rfl⟩
    obtain ⟨R, hR⟩ : ∃ R : List UInt8, R = (s.dropWhile digitB).tail.dropWhile digitB := ⟨_, rfl⟩
    have hfd : ∀ c ∈ F, digitB c = true := by rw [hF]; exact fun c hc => tw_mem hc
    have hfl : F.length ≤ s.length := by
      have h1 := tw_len (p := digitB) (s.dropWhile digitB).tail
      rw [List.length_tail] at h1
      rw [hF]; omega
    rw [← hR, ← hF] at hfin
    have hF2 : (s.dropWhile digitB).tail.takeWhile digitB = F := hF.symm
    have hR2 : (s.dropWhile digitB).tail.dropWhile digitB = R := hR.symm
    refine pwp_skip ?_
    try simp only [thenK, scopeK]
    refine hN14 _ ?_
    clear hN14 N14
    refine pwp_then fun N23 hN23 => ?_
    refine pwp_mapLit 6 rfl rfl Tryd.underlying82 Tryd.underlying9 (.cons (.cons (.cons (.cons (.cons (.cons (.nil))))))) (by decide +kernel) (by decide +kernel) fun R24 hR24 => ?_
    simp only [List.drop_succ_cons, List.drop_zero]
    refine pops_mv (.inl rfl) rfl (by simp only [St.eval, upd_at, Nat.reduceEqDiff, if_true, if_false, hF2, hR2] <;> rfl) ?_
    refine pops_mv (.inr rfl) rfl (by simp only [St.eval, upd_at, Nat.reduceEqDiff, if_true, if_false, hF2, hR2] <;> rfl) ?_
    refine pops_done (hR24 _ ?_)
    clear hR24 R24
    try simp only [thenK, scopeK]
    refine hN23 _ ?_
    clear hN23 N23
    refine pwp_then fun N25 hN25 => ?_
    refine pwp_reg fun R26 hR26 => ?_
    refine pops_mv (.inl rfl) rfl (by simp only [St.eval, upd_at, Nat.reduceEqDiff, if_true, if_false, hF2, hR2] <;> rfl) ?_
    refine pops_mv (.inl rfl) rfl (by simp only [St.eval, upd_at, Nat.reduceEqDiff, if_true, if_false, hF2, hR2] <;> rfl) ?_
    refine pops_to rfl fun M hM => ?_
    simp only [pop, St.eval, constSlot, upd_at, Nat.reduceEqDiff, if_true, if_false, eq_self, true_and, and_true, str_list, str_size, str_app, str_cut, str_get, hF2, hR2]
    refine units_look R (hM _ _ ?_)
    clear hM M
    refine pops_mv (.inl rfl) rfl (by simp only [St.eval, upd_at, Nat.reduceEqDiff, if_true, if_false, hF2, hR2] <;> rfl) ?_
    refine pops_to rfl fun M hM => ?_
    simp only [pop, St.eval, constSlot, upd_at, Nat.reduceEqDiff, if_true, if_false, List.getElem?_toArray, List.getElem?_cons_zero, List.getElem?_cons_succ, hF2, hR2]
    refine hM _ _ ?_
    clear hM M
    refine pops_to rfl fun M hM => ?_
    simp only [pop, St.eval, constSlot, upd_at, Nat.reduceEqDiff, if_true, if_false, List.getElem?_toArray, List.getElem?_cons_zero, List.getElem?_cons_succ, hF2, hR2]
    refine hM _ _ ?_
    clear hM M
    refine pops_mv (.inr rfl) rfl (by simp only [St.eval, upd_at, Nat.reduceEqDiff, if_true, if_false, hF2, hR2] <;> rfl) ?_
    refine pops_mv (.inr rfl) rfl (by simp only [St.eval, upd_at, Nat.reduceEqDiff, if_true, if_false, hF2, hR2] <;> rfl) ?_
    refine pops_done (hR26 _ ?_)
    clear hR26 R26
    try simp only [thenK, scopeK]
    refine hN25 _ ?_
    clear hN25 N25
    refine pwp_then fun N27 hN27 => ?_
    refine pwp_then fun N28 hN28 => ?_
    refine pwp_reg fun R29 hR29 => ?_
    refine pops_mv (.inl rfl) rfl (by simp only [St.eval, upd_at, Nat.reduceEqDiff, if_true, if_false, hF2, hR2] <;> rfl) ?_
    refine pops_to rfl fun M hM => ?_
    simp only [pop, St.eval, constSlot, upd_at, Nat.reduceEqDiff, if_true, if_false, unK, hF2, hR2]
    refine hM _ _ ?_
    clear hM M
    refine pops_done (hR29 _ ?_)
    clear hR29 R29
    try simp only [thenK, scopeK]
    refine hN28 _ ?_
    clear hN28 N28
    refine pwp_cond (by simp only [St.eval, upd_at, Nat.reduceEqDiff, if_true, if_false, hF2, hR2] <;> rfl) (fun c44 => ?_) (fun c44 => ?_)
    ·skip
     have hu : unitOf R = none := by simpa using c44
     have hend : sizeN s = (0, 9) := by rw [hfin, sizeFin, hu]
     refine pwp_then fun N30 hN30 => ?_
     refine pwp_reg fun R31 hR31 => ?_
     refine pops_mv (.inr rfl) rfl (by simp only [St.eval, constSlot] <;> rfl) ?_
     refine pops_mv (.inr rfl) rfl (by simp only [St.eval, constSlot] <;> rfl) ?_
     refine pops_done (hR31 _ ?_)
     clear hR31 R31
     try simp only [thenK, scopeK]
     refine hN30 _ ?_
     clear hN30 N30
     refine pwp_ret ?_
     simp only [thenK, blockK, scopeK, bodyK]
     clear hN27 N27
     refine ⟨_, rfl, endFun s4 ?_⟩
     try simp only [upd_at, Nat.reduceEqDiff, if_true, if_false, hF2, hR2]
     all_goals
      rw [hend]
    ·skip
     have h44 : (unitOf R).isSome = true := by simpa using c44
     obtain ⟨u, hu⟩ := Option.isSome_iff_exists.1 h44
     obtain ⟨hu0, hub⟩ := unit_le hu
     have hfs : sizeN s = sizeC (s.takeWhile digitB) F u := by rw [hfin, sizeFin, hu]
     have hfv := fracV_le (u := u) hfd
     have hw47 : IntKind.i64.wrap (((F.length : Nat) : Int) - 1) = ((F.length : Nat) : Int) - 1 := wrap_i64 (by omega) (by omega)
     refine pwp_skip ?_
     try simp only [thenK, scopeK]
     refine hN27 _ ?_
     clear hN27 N27
     refine pwp_then fun N32 hN32 => ?_
     refine pwp_reg fun R33 hR33 => ?_
     refine pops_mv (.inr rfl) rfl (by simp only [St.eval, constSlot] <;> rfl) ?_
     refine pops_done (hR33 _ ?_)
     clear hR33 R33
     try simp only [thenK, scopeK]
     refine hN32 _ ?_
     clear hN32 N32
     refine pwp_then fun N34 hN34 => ?_
     refine pwp_then fun N35 hN35 => ?_
     refine pwp_reg fun R36 hR36 => ?_
     refine pops_mv (.inl rfl) rfl (by simp only [St.eval, upd_at, Nat.reduceEqDiff, if_true, if_false, hF2, hR2, hu, Option.getD_some] <;> rfl) ?_
     refine pops_to rfl fun M hM => ?_
     simp only [pop, St.eval, constSlot, upd_at, Nat.reduceEqDiff, if_true, if_false, popCall, List.toList_toArray, List.map_cons, List.map_nil, popBuiltin, popLen, lenOfSlot, List.length_map, Tryd.underlying9, eq_self, true_and, and_true, str_list, str_size, str_app, str_cut, str_get, hF2, hR2, hu, Option.getD_some]
     refine hM _ _ ?_
     clear hM M
     refine pops_to rfl fun M hM => ?_
     simp only [pop, St.eval, constSlot, upd_at, Nat.reduceEqDiff, if_true, if_false, popBin, binK, intK, strK, eqK, eq_self, true_and, and_true, hF2, hR2, hu, Option.getD_some, hw47]
     refine hM _ _ ?_
     clear hM M
     refine pops_mv (.inr rfl) rfl (by simp only [St.eval, upd_at, Nat.reduceEqDiff, if_true, if_false, hF2, hR2, hu, Option.getD_some] <;> rfl) ?_
     refine pops_done (hR36 _ ?_)
     clear hR36 R36
     try simp only [thenK, scopeK]
     refine hN35 _ ?_
     clear hN35 N35
     refine pwp_block ?_
     refine pwp_loop (fun k σ => ∃ (i : Nat), (k = i) ∧ (i ≤ F.length) ∧ (Same h σ.hp) ∧ (σ.env 8 = .sv (.one (pstr F))) ∧ (σ.env 10 = .sv (.one (pint (u : Nat)))) ∧ (σ.env 6 = .sv (.one (pint (numV (s.takeWhile digitB) : Nat)))) ∧ (σ.env 11 = .sv (.one (pint (fracV u (F.drop i) : Nat)))) ∧ (σ.env 12 = .sv (.one (pint ((i : Int) - 1))))) _ ⟨_, .refl _ _, F.length, rfl, ?_⟩ ?_
     · exact ⟨Nat.le_refl _, s4, by simp only [upd_at, Nat.reduceEqDiff, if_true, if_false]; first | done | rfl | rw [hF], by simp only [upd_at, Nat.reduceEqDiff, if_true, if_false, hF2, hR2, hu, Option.getD_some], by simp only [upd_at, Nat.reduceEqDiff, if_true, if_false, hnb, Bool.false_eq_true], by simp only [upd_at, Nat.reduceEqDiff, if_true, if_false, List.drop_length]; rfl, by simp only [upd_at, Nat.reduceEqDiff, if_true, if_false]; first | done | rw [hF2, hw47]⟩
     ·rintro k ⟨e, hp0⟩ ⟨i, hk0, hx0_0, sl0, e0_8, e0_10, e0_6, e0_11, e0_12⟩
      simp only at sl0 e0_8 e0_10 e0_6 e0_11 e0_12
      refine pwp_then fun N37 hN37 => ?_
      refine pwp_then fun N38 hN38 => ?_
      refine pwp_reg fun R39 hR39 => ?_
      refine pops_mv (.inl rfl) rfl (by simp only [St.eval, upd_at, Nat.reduceEqDiff, if_true, if_false, e0_8, e0_10, e0_6, e0_11, e0_12] <;> rfl) ?_
      refine pops_to rfl fun M hM => ?_
      simp only [pop, St.eval, constSlot, upd_at, Nat.reduceEqDiff, if_true, if_false, popBin, binK, intK, strK, eqK, eq_self, true_and, and_true, e0_8, e0_10, e0_6, e0_11, e0_12]
      refine hM _ _ ?_
      clear hM M
      refine pops_done (hR39 _ ?_)
      clear hR39 R39
      try simp only [thenK, scopeK]
      refine hN38 _ ?_
      clear hN38 N38
      refine pwp_cond (by simp only [St.eval, upd_at, Nat.reduceEqDiff, if_true, if_false, e0_8, e0_10, e0_6, e0_11, e0_12] <;> rfl) (fun c49 => ?_) (fun c49 => ?_)
      ·skip
       have h49 := of_decide_eq_true c49
       obtain ⟨j, rfl⟩ : ∃ j, i = j + 1 := ⟨i - 1, by omega⟩
       have e54 : ((j + 1 : Nat) : Int) - 1 = (j : Int) := by omega
       have hx := getD_some (s := F) (i := j) (by omega)
       obtain ⟨x, hxx, hx9⟩ := digit_val (hfd _ (List.mem_of_getElem? hx))
       have hfa := frac_at (u := u) hx
       rw [hxx, show 48 + x - 48 = x by omega] at hfa
       have hxu : x * u ≤ 9 * u := Nat.mul_le_mul_right _ hx9
       have hpl := fracV_le (u := u) (f := F.drop (j + 1)) (fun c hc => hfd c (List.mem_of_mem_drop hc))
       have hw56 : IntKind.u8.wrap (((F.getD j 0).toNat : Int) - 48) = (x : Int) := by rw [wrap_u8 (by omega) (by omega)]; omega
       have hw57 : IntKind.i64.wrap (x : Int) = (x : Int) := wrap_i64 (by omega) (by omega)
       have hw59 : IntKind.i64.wrap ((x : Int) * (u : Int)) = ((x * u : Nat) : Int) := mul_nat x u (by omega)
       have hw60 : IntKind.i64.wrap (((fracV u (F.drop (j + 1)) : Nat) : Int) + ((x * u : Nat) : Int)) = ((fracV u (F.drop (j + 1)) + x * u : Nat) : Int) := by rw [wrap_i64 (by omega) (by omega)]; omega
       have hw61 : IntKind.i64.wrap (Int.tdiv ((fracV u (F.drop (j + 1)) + x * u : Nat) : Int) 10) = ((fracV u (F.drop j) : Nat) : Int) := by rw [hfa]; exact quo_nat _ 10 (by omega)
       refine pwp_skip ?_
       try simp only [thenK, scopeK]
       refine hN37 _ ?_
       clear hN37 N37
       refine pwp_then fun N40 hN40 => ?_
       refine pwp_block ?_
       refine pwp_reg fun R41 hR41 => ?_
       refine pops_mv (.inl rfl) rfl (by simp only [St.eval, upd_at, Nat.reduceEqDiff, if_true, if_false, e0_8, e0_10, e0_6, e0_11, e0_12] <;> rfl) ?_
       refine pops_mv (.inl rfl) rfl (by simp only [St.eval, upd_at, Nat.reduceEqDiff, if_true, if_false, e0_8, e0_10, e0_6, e0_11, e0_12] <;> rfl) ?_
       refine pops_mv (.inl rfl) rfl (by simp only [St.eval, upd_at, Nat.reduceEqDiff, if_true, if_false, e0_8, e0_10, e0_6, e0_11, e0_12] <;> rfl) ?_
       refine pops_to rfl fun M hM => ?_
       simp only [pop, St.eval, constSlot, upd_at, Nat.reduceEqDiff, if_true, if_false, popIndex, partK, Tryd.underlying9, eq_self, true_and, and_true, str_list, str_size, str_app, str_cut, str_get, e0_8, e0_10, e0_6, e0_11, e0_12, e54, hx, Int.toNat_natCast]
       refine ⟨Int.natCast_nonneg _, hM _ _ ?_⟩
       clear hM M
       refine pops_to rfl fun M hM => ?_
       simp only [pop, St.eval, constSlot, upd_at, Nat.reduceEqDiff, if_true, if_false, popBin, binK, intK, strK, eqK, eq_self, true_and, and_true, e0_8, e0_10, e0_6, e0_11, e0_12, hw56]
       refine hM _ _ ?_
       clear hM M
       refine pops_to rfl fun M hM => ?_
       simp only [pop, St.eval, constSlot, upd_at, Nat.reduceEqDiff, if_true, if_false, popConvert, Tryd.underlying5, Tryd.underlying3, eq_self, true_and, and_true, str_list, str_size, str_app, str_cut, str_get, e0_8, e0_10, e0_6, e0_11, e0_12, hw57]
       refine hM _ _ ?_
       clear hM M
       refine pops_mv (.inl rfl) rfl (by simp only [St.eval, upd_at, Nat.reduceEqDiff, if_true, if_false, e0_8, e0_10, e0_6, e0_11, e0_12] <;> rfl) ?_
       refine pops_to rfl fun M hM => ?_
       simp only [pop, St.eval, constSlot, upd_at, Nat.reduceEqDiff, if_true, if_false, popBin, binK, intK, strK, eqK, eq_self, true_and, and_true, e0_8, e0_10, e0_6, e0_11, e0_12, hw59]
       refine hM _ _ ?_
       clear hM M
       refine pops_to rfl fun M hM => ?_
       simp only [pop, St.eval, constSlot, upd_at, Nat.reduceEqDiff, if_true, if_false, popBin, binK, intK, strK, eqK, eq_self, true_and, and_true, e0_8, e0_10, e0_6, e0_11, e0_12, hw60]
       refine hM _ _ ?_
       clear hM M
       refine pops_to rfl fun M hM => ?_
       simp only [pop, St.eval, constSlot, upd_at, Nat.reduceEqDiff, if_true, if_false, popBin, binK, intK, strK, eqK, eq_self, true_and, and_true, e0_8, e0_10, e0_6, e0_11, e0_12, hw61]
       refine ⟨by decide, hM _ _ ?_⟩
       clear hM M
       refine pops_mv (.inr rfl) rfl (by simp only [St.eval, upd_at, Nat.reduceEqDiff, if_true, if_false, e0_8, e0_10, e0_6, e0_11, e0_12] <;> rfl) ?_
       refine pops_done (hR41 _ ?_)
       clear hR41 R41
       try simp only [blockK, thenK, scopeK]
       try simp only [thenK, scopeK]
       refine hN40 _ ?_
       clear hN40 N40
       refine pwp_reg fun R42 hR42 => ?_
       refine pops_mv (.inl rfl) rfl (by simp only [St.eval, upd_at, Nat.reduceEqDiff, if_true, if_false, e0_8, e0_10, e0_6, e0_11, e0_12] <;> rfl) ?_
       refine pops_to rfl fun M hM => ?_
       simp only [pop, St.eval, constSlot, upd_at, Nat.reduceEqDiff, if_true, if_false, popBin, binK, intK, strK, eqK, eq_self, true_and, and_true, e0_8, e0_10, e0_6, e0_11, e0_12]
       refine hM _ _ ?_
       clear hM M
       refine pops_mv (.inr rfl) rfl (by simp only [St.eval, upd_at, Nat.reduceEqDiff, if_true, if_false, e0_8, e0_10, e0_6, e0_11, e0_12] <;> rfl) ?_
       refine pops_done (hR42 _ ?_)
       clear hR42 R42
       try simp only [thenK, scopeK]
       exact ⟨_, by omega, _, .refl _ _, j, rfl, by omega, sl0, by simp only [upd_at, Nat.reduceEqDiff, if_true, if_false, e0_8, e0_10, e0_6, e0_11, e0_12], by simp only [upd_at, Nat.reduceEqDiff, if_true, if_false, e0_8, e0_10, e0_6, e0_11, e0_12], by simp only [upd_at, Nat.reduceEqDiff, if_true, if_false, e0_8, e0_10, e0_6, e0_11, e0_12], by simp only [upd_at, Nat.reduceEqDiff, if_true, if_false, e0_8, e0_10, e0_6, e0_11, e0_12], by simp only [upd_at, Nat.reduceEqDiff, if_true, if_false, e0_12, e54]; rw [wrap_i64 (by omega) (by omega)]⟩
      ·skip
       have h49 := of_decide_eq_false c49
       obtain rfl : i = 0 := by omega
       rw [List.drop_zero] at e0_11
       have htv := timesV_le (numV (s.takeWhile digitB)) u hu0
       have hw67 : IntKind.i64.wrap (4611686018427387904 - ((fracV u F : Nat) : Int)) = ((4611686018427387904 - fracV u F : Nat) : Int) := by rw [wrap_i64 (by omega) (by omega)]; omega
       refine pwp_exit ?_
       try simp only [thenK, blockK, scopeK, if_true, Nat.reduceEqDiff, if_false]
       clear hN37 N37
       try simp only [blockK, scopeK, if_true, Nat.reduceEqDiff, if_false, thenK]
       try simp only [thenK, scopeK]
       refine hN34 _ ?_
       clear hN34 N34
       refine pwp_then fun N43 hN43 => ?_
       refine pwp_then fun N44 hN44 => ?_
       refine pwp_reg fun R45 hR45 => ?_
       refine pops_mv (.inl rfl) rfl (by simp only [St.eval, upd_at, Nat.reduceEqDiff, if_true, if_false, e0_8, e0_10, e0_6, e0_11, e0_12] <;> rfl) ?_
       refine pops_mv (.inl rfl) rfl (by simp only [St.eval, upd_at, Nat.reduceEqDiff, if_true, if_false, e0_8, e0_10, e0_6, e0_11, e0_12] <;> rfl) ?_
       refine pops_to rfl fun M hM => ?_
       simp only [pop, St.eval, constSlot, upd_at, Nat.reduceEqDiff, if_true, if_false, popCall, List.toList_toArray, List.map_cons, List.map_nil, svs, List.mapM_cons, List.mapM_nil, Option.bind_eq_bind, Option.bind_some, Option.pure_def, List.append_nil, List.cons_append, List.nil_append, str_size, e0_8, e0_10, e0_6, e0_11, e0_12]
       refine PFun.use (times_fun W0 (numV (s.takeWhile digitB)) u hu0 (by omega) (numV_le _)) fun h5 s5 => hM _ _ ?_
       replace s5 := Same.trans sl0 s5
       clear hM M
       refine pops_mv (.inr rfl) rfl (by simp only [St.eval, upd_at, Nat.reduceEqDiff, if_true, if_false, e0_8, e0_10, e0_6, e0_11, e0_12] <;> rfl) ?_
       refine pops_done (hR45 _ ?_)
       clear hR45 R45
       try simp only [thenK, scopeK]
       refine hN44 _ ?_
       clear hN44 N44
       refine pwp_then fun N46 hN46 => ?_
       refine pwp_reg fun R47 hR47 => ?_
       refine pops_mv (.inl rfl) rfl (by simp only [St.eval, upd_at, Nat.reduceEqDiff, if_true, if_false, e0_8, e0_10, e0_6, e0_11, e0_12] <;> rfl) ?_
       refine pops_mv (.inl rfl) rfl (by simp only [St.eval, upd_at, Nat.reduceEqDiff, if_true, if_false, e0_8, e0_10, e0_6, e0_11, e0_12] <;> rfl) ?_
       refine pops_to rfl fun M hM => ?_
       simp only [pop, St.eval, constSlot, upd_at, Nat.reduceEqDiff, if_true, if_false, popBin, binK, intK, strK, eqK, eq_self, true_and, and_true, e0_8, e0_10, e0_6, e0_11, e0_12, hw67]
       refine hM _ _ ?_
       clear hM M
       refine pops_to rfl fun M hM => ?_
       simp only [pop, St.eval, constSlot, upd_at, Nat.reduceEqDiff, if_true, if_false, popBin, binK, intK, strK, eqK, eq_self, true_and, and_true, e0_8, e0_10, e0_6, e0_11, e0_12]
       refine hM _ _ ?_
       clear hM M
       refine pops_done (hR47 _ ?_)
       clear hR47 R47
       try simp only [thenK, scopeK]
       refine hN46 _ ?_
       clear hN46 N46
       refine pwp_cond (by simp only [St.eval, upd_at, Nat.reduceEqDiff, if_true, if_false, e0_8, e0_10, e0_6, e0_11, e0_12] <;> rfl) (fun c68 => ?_) (fun c68 => ?_)
       ·skip
        have h68 : 4611686018427387904 - fracV u F < timesV (numV (s.takeWhile digitB)) u := by have := of_decide_eq_true c68; omega
        have hend : sizeN s = (0, 7) := by rw [hfs, sizeC, if_pos h68]
        refine pwp_then fun N48 hN48 => ?_
        refine pwp_reg fun R49 hR49 => ?_
        refine pops_mv (.inr rfl) rfl (by simp only [St.eval, constSlot] <;> rfl) ?_
        refine pops_mv (.inr rfl) rfl (by simp only [St.eval, constSlot] <;> rfl) ?_
        refine pops_done (hR49 _ ?_)
        clear hR49 R49
        try simp only [thenK, scopeK]
        refine hN48 _ ?_
        clear hN48 N48
        refine pwp_ret ?_
        simp only [thenK, blockK, scopeK, bodyK]
        clear hN43 N43
        refine ⟨_, rfl, endFun s5 ?_⟩
        try simp only [upd_at, Nat.reduceEqDiff, if_true, if_false, e0_8, e0_10, e0_6, e0_11, e0_12]
        all_goals
         rw [hend]
       ·skip
        have h68 : ¬ 4611686018427387904 - fracV u F < timesV (numV (s.takeWhile digitB)) u := by have := of_decide_eq_false c68; omega
        have hend : sizeN s = (((timesV (numV (s.takeWhile digitB)) u + fracV u F : Nat) : Int), 0) := by rw [hfs, sizeC, if_neg h68]
        have hw71 : IntKind.i64.wrap (((timesV (numV (s.takeWhile digitB)) u : Nat) : Int) + ((fracV u F : Nat) : Int)) = ((timesV (numV (s.takeWhile digitB)) u + fracV u F : Nat) : Int) := by rw [wrap_i64 (by omega) (by omega)]; omega
        refine pwp_skip ?_
        try simp only [thenK, scopeK]
        refine hN43 _ ?_
        clear hN43 N43
        refine pwp_then fun N50 hN50 => ?_
        refine pwp_reg fun R51 hR51 => ?_
        refine pops_mv (.inl rfl) rfl (by simp only [St.eval, upd_at, Nat.reduceEqDiff, if_true, if_false, e0_8, e0_10, e0_6, e0_11, e0_12] <;> rfl) ?_
        refine pops_mv (.inl rfl) rfl (by simp only [St.eval, upd_at, Nat.reduceEqDiff, if_true, if_false, e0_8, e0_10, e0_6, e0_11, e0_12] <;> rfl) ?_
        refine pops_to rfl fun M hM => ?_
        simp only [pop, St.eval, constSlot, upd_at, Nat.reduceEqDiff, if_true, if_false, popBin, binK, intK, strK, eqK, eq_self, true_and, and_true, e0_8, e0_10, e0_6, e0_11, e0_12, hw71]
        refine hM _ _ ?_
        clear hM M
        refine pops_mv (.inr rfl) rfl (by simp only [St.eval, upd_at, Nat.reduceEqDiff, if_true, if_false, e0_8, e0_10, e0_6, e0_11, e0_12] <;> rfl) ?_
        refine pops_mv (.inr rfl) rfl (by simp only [St.eval, constSlot] <;> rfl) ?_
        refine pops_done (hR51 _ ?_)
        clear hR51 R51
        try simp only [thenK, scopeK]
        refine hN50 _ ?_
        clear hN50 N50
        refine pwp_ret ?_
        simp only [thenK, blockK, scopeK, bodyK]
        refine ⟨_, rfl, endFun s5 ?_⟩
        try simp only [upd_at, Nat.reduceEqDiff, if_true, if_false, e0_8, e0_10, e0_6, e0_11, e0_12]
        all_goals
         rw [hend]
  ·skip
   rw [hp46] at c26
   have h46 : (s.dropWhile digitB).head? ≠ some 46 := by simpa using c26
   have hfin := sizeN_int hnb h46
   obtain ⟨F, hF⟩ : ∃ F : List UInt8, F = [] := ⟨_, rfl⟩
   obtain ⟨R, hR⟩ : ∃ R : List UInt8, R = (s.dropWhile digitB) := ⟨_, rfl⟩
   have hfd : ∀ c ∈ F, digitB c = true := by rw [hF]; simp
   have hfl : F.length ≤ s.length := by rw [hF]; exact Nat.zero_le _
   rw [← hR, ← hF] at hfin
   have hF2 : ([] : List UInt8) = F := hF.symm
   have hR2 : (s.dropWhile digitB) = R := hR.symm
   refine pwp_skip ?_
   try simp only [thenK, scopeK]
   refine hN14 _ ?_
   clear hN14 N14
   refine pwp_then fun N52 hN52 => ?_
   refine pwp_mapLit 6 rfl rfl Tryd.underlying82 Tryd.underlying9 (.cons (.cons (.cons (.cons (.cons (.cons (.nil))))))) (by decide +kernel) (by decide +kernel) fun R53 hR53 => ?_
   simp only [List.drop_succ_cons, List.drop_zero]
   refine pops_mv (.inl rfl) rfl (by simp only [St.eval, upd_at, Nat.reduceEqDiff, if_true, if_false, hR2] <;> rfl) ?_
   refine pops_mv (.inr rfl) rfl (by simp only [St.eval, upd_at, Nat.reduceEqDiff, if_true, if_false, hR2] <;> rfl) ?_
   refine pops_done (hR53 _ ?_)
   clear hR53 R53
   try simp only [thenK, scopeK]
   refine hN52 _ ?_
   clear hN52 N52
   refine pwp_then fun N54 hN54 => ?_
   refine pwp_reg fun R55 hR55 => ?_
   refine pops_mv (.inl rfl) rfl (by simp only [St.eval, upd_at, Nat.reduceEqDiff, if_true, if_false, hR2] <;> rfl) ?_
   refine pops_mv (.inl rfl) rfl (by simp only [St.eval, upd_at, Nat.reduceEqDiff, if_true, if_false, hR2] <;> rfl) ?_
   refine pops_to rfl fun M hM => ?_
   simp only [pop, St.eval, constSlot, upd_at, Nat.reduceEqDiff, if_true, if_false, eq_self, true_and, and_true, str_list, str_size, str_app, str_cut, str_get, hR2]
   refine units_look R (hM _ _ ?_)
   clear hM M
   refine pops_mv (.inl rfl) rfl (by simp only [St.eval, upd_at, Nat.reduceEqDiff, if_true, if_false, hR2] <;> rfl) ?_
   refine pops_to rfl fun M hM => ?_
   simp only [pop, St.eval, constSlot, upd_at, Nat.reduceEqDiff, if_true, if_false, List.getElem?_toArray, List.getElem?_cons_zero, List.getElem?_cons_succ, hR2]
   refine hM _ _ ?_
   clear hM M
   refine pops_to rfl fun M hM => ?_
   simp only [pop, St.eval, constSlot, upd_at, Nat.reduceEqDiff, if_true, if_false, List.getElem?_toArray, List.getElem?_cons_zero, List.getElem?_cons_succ, hR2]
   refine hM _ _ ?_
   clear hM M
   refine pops_mv (.inr rfl) rfl (by simp only [St.eval, upd_at, Nat.reduceEqDiff, if_true, if_false, hR2] <;> rfl) ?_
   refine pops_mv (.inr rfl) rfl (by simp only [St.eval, upd_at, Nat.reduceEqDiff, if_true, if_false, hR2] <;> rfl) ?_
   refine pops_done (hR55 _ ?_)
   clear hR55 R55
   try simp only [thenK, scopeK]
   refine hN54 _ ?_
   clear hN54 N54
   refine pwp_then fun N56 hN56 => ?_
   refine pwp_then fun N57 hN57 => ?_
   refine pwp_reg fun R58 hR58 => ?_
   refine pops_mv (.inl rfl) rfl (by simp only [St.eval, upd_at, Nat.reduceEqDiff, if_true, if_false, hR2] <;> rfl) ?_
   refine pops_to rfl fun M hM => ?_
   simp only [pop, St.eval, constSlot, upd_at, Nat.reduceEqDiff, if_true, if_false, unK, hR2]
   refine hM _ _ ?_
   clear hM M
   refine pops_done (hR58 _ ?_)
   clear hR58 R58
   try simp only [thenK, scopeK]
   refine hN57 _ ?_
   clear hN57 N57
   refine pwp_cond (by simp only [St.eval, upd_at, Nat.reduceEqDiff, if_true, if_false, hR2] <;> rfl) (fun c44 => ?_) (fun c44 => ?_)
   ·skip
    have hu : unitOf R = none := by simpa using c44
    have hend : sizeN s = (0, 9) := by rw [hfin, sizeFin, hu]
    refine pwp_then fun N59 hN59 => ?_
    refine pwp_reg fun R60 hR60 => ?_
    refine pops_mv (.inr rfl) rfl (by simp only [St.eval, constSlot] <;> rfl) ?_
    refine pops_mv (.inr rfl) rfl (by simp only [St.eval, constSlot] <;> rfl) ?_
    refine pops_done (hR60 _ ?_)
    clear hR60 R60
    try simp only [thenK, scopeK]
    refine hN59 _ ?_
    clear hN59 N59
    refine pwp_ret ?_
    simp only [thenK, blockK, scopeK, bodyK]
    clear hN56 N56
    refine ⟨_, rfl, endFun s3 ?_⟩
    try simp only [upd_at, Nat.reduceEqDiff, if_true, if_false, hR2]
    all_goals
     rw [hend]
   ·skip
    have h44 : (unitOf R).isSome = true := by simpa using c44
    obtain ⟨u, hu⟩ := Option.isSome_iff_exists.1 h44
    obtain ⟨hu0, hub⟩ := unit_le hu
    have hfs : sizeN s = sizeC (s.takeWhile digitB) F u := by rw [hfin, sizeFin, hu]
    have hfv := fracV_le (u := u) hfd
    have hw47 : IntKind.i64.wrap (((F.length : Nat) : Int) - 1) = ((F.length : Nat) : Int) - 1 := wrap_i64 (by omega) (by omega)
    refine pwp_skip ?_
    try simp only [thenK, scopeK]
    refine hN56 _ ?_
    clear hN56 N56
    refine pwp_then fun N61 hN61 => ?_
    refine pwp_reg fun R62 hR62 => ?_
    refine pops_mv (.inr rfl) rfl (by simp only [St.eval, constSlot] <;> rfl) ?_
    refine pops_done (hR62 _ ?_)
    clear hR62 R62
    try simp only [thenK, scopeK]
    refine hN61 _ ?_
    clear hN61 N61
    refine pwp_then fun N63 hN63 => ?_
    refine pwp_then fun N64 hN64 => ?_
    refine pwp_reg fun R65 hR65 => ?_
    refine pops_mv (.inl rfl) rfl (by simp only [St.eval, upd_at, Nat.reduceEqDiff, if_true, if_false, hR2, hu, Option.getD_some] <;> rfl) ?_
    refine pops_to rfl fun M hM => ?_
    simp only [pop, St.eval, constSlot, upd_at, Nat.reduceEqDiff, if_true, if_false, popCall, List.toList_toArray, List.map_cons, List.map_nil, popBuiltin, popLen, lenOfSlot, List.length_map, Tryd.underlying9, eq_self, true_and, and_true, str_list, str_size, str_app, str_cut, str_get, hR2, hu, Option.getD_some]
    refine hM _ _ ?_
    clear hM M
    refine pops_to rfl fun M hM => ?_
    simp only [pop, St.eval, constSlot, upd_at, Nat.reduceEqDiff, if_true, if_false, popBin, binK, intK, strK, eqK, eq_self, true_and, and_true, hR2, hu, Option.getD_some, hw47]
    refine hM _ _ ?_
    clear hM M
    refine pops_mv (.inr rfl) rfl (by simp only [St.eval, upd_at, Nat.reduceEqDiff, if_true, if_false, hR2, hu, Option.getD_some] <;> rfl) ?_
    refine pops_done (hR65 _ ?_)
    clear hR65 R65
    try simp only [thenK, scopeK]
    refine hN64 _ ?_
    clear hN64 N64
    refine pwp_block ?_
    refine pwp_loop (fun k σ => ∃ (i : Nat), (k = i) ∧ (i ≤ F.length) ∧ (Same h σ.hp) ∧ (σ.env 8 = .sv (.one (pstr F))) ∧ (σ.env 10 = .sv (.one (pint (u : Nat)))) ∧ (σ.env 6 = .sv (.one (pint (numV (s.takeWhile digitB) : Nat)))) ∧ (σ.env 11 = .sv (.one (pint (fracV u (F.drop i) : Nat)))) ∧ (σ.env 12 = .sv (.one (pint ((i : Int) - 1))))) _ ⟨_, .refl _ _, F.length, rfl, ?_⟩ ?_
    · exact ⟨Nat.le_refl _, s3, by simp only [upd_at, Nat.reduceEqDiff, if_true, if_false]; first | done | rfl | rw [hF], by simp only [upd_at, Nat.reduceEqDiff, if_true, if_false, hR2, hu, Option.getD_some], by simp only [upd_at, Nat.reduceEqDiff, if_true, if_false, hnb, Bool.false_eq_true], by simp only [upd_at, Nat.reduceEqDiff, if_true, if_false, List.drop_length]; rfl, by simp only [upd_at, Nat.reduceEqDiff, if_true, if_false]; first | done | rw [hF2, hw47]⟩
    ·rintro k ⟨e, hp0⟩ ⟨i, hk0, hx0_0, sl0, e0_8, e0_10, e0_6, e0_11, e0_12⟩
     simp only at sl0 e0_8 e0_10 e0_6 e0_11 e0_12
     refine pwp_then fun N66 hN66 => ?_
     refine pwp_then fun N67 hN67 => ?_
     refine pwp_reg fun R68 hR68 => ?_
     refine pops_mv (.inl rfl) rfl (by simp only [St.eval, upd_at, Nat.reduceEqDiff, if_true, if_false, e0_8, e0_10, e0_6, e0_11, e0_12] <;> rfl) ?_
     refine pops_to rfl fun M hM => ?_
     simp only [pop, St.eval, constSlot, upd_at, Nat.reduceEqDiff, if_true, if_false, popBin, binK, intK, strK, eqK, eq_self, true_and, and_true, e0_8, e0_10, e0_6, e0_11, e0_12]
     refine hM _ _ ?_
     clear hM M
     refine pops_done (hR68 _ ?_)
     clear hR68 R68
     try simp only [thenK, scopeK]
     refine hN67 _ ?_
     clear hN67 N67
     refine pwp_cond (by simp only [St.eval, upd_at, Nat.reduceEqDiff, if_true, if_false, e0_8, e0_10, e0_6, e0_11, e0_12] <;> rfl) (fun c49 => ?_) (fun c49 => ?_)
     ·skip
      have h49 := of_decide_eq_true c49
      obtain ⟨j, rfl⟩ : ∃ j, i = j + 1 := ⟨i - 1, by omega⟩
      have e54 : ((j + 1 : Nat) : Int) - 1 = (j : Int) := by omega
      have hx := getD_some (s := F) (i := j) (by omega)
      obtain ⟨x, hxx, hx9⟩ := digit_val (hfd _ (List.mem_of_getElem? hx))
      have hfa := frac_at (u := u) hx
      rw [hxx, show 48 + x - 48 = x by omega] at hfa
      have hxu : x * u ≤ 9 * u := Nat.mul_le_mul_right _ hx9
      have hpl := fracV_le (u := u) (f := F.drop (j + 1)) (fun c hc => hfd c (List.mem_of_mem_drop hc))
      have hw56 : IntKind.u8.wrap (((F.getD j 0).toNat : Int) - 48) = (x : Int) := by rw [wrap_u8 (by omega) (by omega)]; omega
      have hw57 : IntKind.i64.wrap (x : Int) = (x : Int) := wrap_i64 (by omega) (by omega)
      have hw59 : IntKind.i64.wrap ((x : Int) * (u : Int)) = ((x * u : Nat) : Int) := mul_nat x u (by omega)
      have hw60 : IntKind.i64.wrap (((fracV u (F.drop (j + 1)) : Nat) : Int) + ((x * u : Nat) : Int)) = ((fracV u (F.drop (j + 1)) + x * u : Nat) : Int) := by rw [wrap_i64 (by omega) (by omega)]; omega
      have hw61 : IntKind.i64.wrap (Int.tdiv ((fracV u (F.drop (j + 1)) + x * u : Nat) : Int) 10) = ((fracV u (F.drop j) : Nat) : Int) := by rw [hfa]; exact quo_nat _ 10 (by omega)
      refine pwp_skip ?_
      try simp only [thenK, scopeK]
      refine hN66 _ ?_
      clear hN66 N66
      refine pwp_then fun N69 hN69 => ?_
      refine pwp_block ?_
      refine pwp_reg fun R70 hR70 => ?_
      refine pops_mv (.inl rfl) rfl (by simp only [St.eval, upd_at, Nat.reduceEqDiff, if_true, if_false, e0_8, e0_10, e0_6, e0_11, e0_12] <;> rfl) ?_
      refine pops_mv (.inl rfl) rfl (by simp only [St.eval, upd_at, Nat.reduceEqDiff, if_true, if_false, e0_8, e0_10, e0_6, e0_11, e0_12] <;> rfl) ?_
      refine pops_mv (.inl rfl) rfl (by simp only [St.eval, upd_at, Nat.reduceEqDiff, if_true, if_false, e0_8, e0_10, e0_6, e0_11, e0_12] <;> rfl) ?_
      refine pops_to rfl fun M hM => ?_
      simp only [pop, St.eval, constSlot, upd_at, Nat.reduceEqDiff, if_true, if_false, popIndex, partK, Tryd.underlying9, eq_self, true_and, and_true, str_list, str_size, str_app, str_cut, str_get, e0_8, e0_10, e0_6, e0_11, e0_12, e54, hx, Int.toNat_natCast]
      refine ⟨Int.natCast_nonneg _, hM _ _ ?_⟩
      clear hM M
      refine pops_to rfl fun M hM => ?_
      simp only [pop, St.eval, constSlot, upd_at, Nat.reduceEqDiff, if_true, if_false, popBin, binK, intK, strK, eqK, eq_self, true_and, and_true, e0_8, e0_10, e0_6, e0_11, e0_12, hw56]
      refine hM _ _ ?_
      clear hM M
      refine pops_to rfl fun M hM => ?_
      simp only [pop, St.eval, constSlot, upd_at, Nat.reduceEqDiff, if_true, if_false, popConvert, Tryd.underlying5, Tryd.underlying3, eq_self, true_and, and_true, str_list, str_size, str_app, str_cut, str_get, e0_8, e0_10, e0_6, e0_11, e0_12, hw57]
      refine hM _ _ ?_
      clear hM M
      refine pops_mv (.inl rfl) rfl (by simp only [St.eval, upd_at, Nat.reduceEqDiff, if_true, if_false, e0_8, e0_10, e0_6, e0_11, e0_12] <;> rfl) ?_
      refine pops_to rfl fun M hM => ?_
      simp only [pop, St.eval, constSlot, upd_at, Nat.reduceEqDiff, if_true, if_false, popBin, binK, intK, strK, eqK, eq_self, true_and, and_true, e0_8, e0_10, e0_6, e0_11, e0_12, hw59]
      refine hM _ _ ?_
      clear hM M
      refine pops_to rfl fun M hM => ?_
      simp only [pop, St.eval, constSlot, upd_at, Nat.reduceEqDiff, if_true, if_false, popBin, binK, intK, strK, eqK, eq_self, true_and, and_true, e0_8, e0_10, e0_6, e0_11, e0_12, hw60]
      refine hM _ _ ?_
      clear hM M
      refine pops_to rfl fun M hM => ?_
      simp only [pop, St.eval, constSlot, upd_at, Nat.reduceEqDiff, if_true, if_false, popBin, binK, intK, strK, eqK, eq_self, true_and, and_true, e0_8, e0_10, e0_6, e0_11, e0_12, hw61]
      refine ⟨by decide, hM _ _ ?_⟩
      clear hM M
      refine pops_mv (.inr rfl) rfl (by simp only [St.eval, upd_at, Nat.reduceEqDiff, if_true, if_false, e0_8, e0_10, e0_6, e0_11, e0_12] <;> rfl) ?_
      refine pops_done (hR70 _ ?_)
      clear hR70 R70
      try simp only [blockK, thenK, scopeK]
      try simp only [thenK, scopeK]
      refine hN69 _ ?_
      clear hN69 N69
      refine pwp_reg fun R71 hR71 => ?_
      refine pops_mv (.inl rfl) rfl (by simp only [St.eval, upd_at, Nat.reduceEqDiff, if_true, if_false, e0_8, e0_10, e0_6, e0_11, e0_12] <;> rfl) ?_
      refine pops_to rfl fun M hM => ?_
      simp only [pop, St.eval, constSlot, upd_at, Nat.reduceEqDiff, if_true, if_false, popBin, binK, intK, strK, eqK, eq_self, true_and, and_true, e0_8, e0_10, e0_6, e0_11, e0_12]
      refine hM _ _ ?_
      clear hM M
      refine pops_mv (.inr rfl) rfl (by simp only [St.eval, upd_at, Nat.reduceEqDiff, if_true, if_false, e0_8, e0_10, e0_6, e0_11, e0_12] <;> rfl) ?_
      refine pops_done (hR71 _ ?_)
      clear hR71 R71
      try simp only [thenK, scopeK]
      exact ⟨_, by omega, _, .refl _ _, j, rfl, by omega, sl0, by simp only [upd_at, Nat.reduceEqDiff, if_true, if_false, e0_8, e0_10, e0_6, e0_11, e0_12], by simp only [upd_at, Nat.reduceEqDiff, if_true, if_false, e0_8, e0_10, e0_6, e0_11, e0_12], by simp only [upd_at, Nat.reduceEqDiff, if_true, if_false, e0_8, e0_10, e0_6, e0_11, e0_12], by simp only [upd_at, Nat.reduceEqDiff, if_true, if_false, e0_8, e0_10, e0_6, e0_11, e0_12], by simp only [upd_at, Nat.reduceEqDiff, if_true, if_false, e0_12, e54]; rw [wrap_i64 (by omega) (by omega)]⟩
     ·skip
      have h49 := of_decide_eq_false c49
      obtain rfl : i = 0 := by omega
      rw [List.drop_zero] at e0_11
      have htv := timesV_le (numV (s.takeWhile digitB)) u hu0
      have hw67 : IntKind.i64.wrap (4611686018427387904 - ((fracV u F : Nat) : Int)) = ((4611686018427387904 - fracV u F : Nat) : Int) := by rw [wrap_i64 (by omega) (by omega)]; omega
      refine pwp_exit ?_
      try simp only [thenK, blockK, scopeK, if_true, Nat.reduceEqDiff, if_false]
      clear hN66 N66
      try simp only [blockK, scopeK, if_true, Nat.reduceEqDiff, if_false, thenK]
      try simp only [thenK, scopeK]
      refine hN63 _ ?_
      clear hN63 N63
      refine pwp_then fun N72 hN72 => ?_
      refine pwp_then fun N73 hN73 => ?_
      refine pwp_reg fun R74 hR74 => ?_
      refine pops_mv (.inl rfl) rfl (by simp only [St.eval, upd_at, Nat.reduceEqDiff, if_true, if_false, e0_8, e0_10, e0_6, e0_11, e0_12] <;> rfl) ?_
      refine pops_mv (.inl rfl) rfl (by simp only [St.eval, upd_at, Nat.reduceEqDiff, if_true, if_false, e0_8, e0_10, e0_6, e0_11, e0_12] <;> rfl) ?_
      refine pops_to rfl fun M hM => ?_
      simp only [pop, St.eval, constSlot, upd_at, Nat.reduceEqDiff, if_true, if_false, popCall, List.toList_toArray, List.map_cons, List.map_nil, svs, List.mapM_cons, List.mapM_nil, Option.bind_eq_bind, Option.bind_some, Option.pure_def, List.append_nil, List.cons_append, List.nil_append, str_size, e0_8, e0_10, e0_6, e0_11, e0_12]
      refine PFun.use (times_fun W0 (numV (s.takeWhile digitB)) u hu0 (by omega) (numV_le _)) fun h6 s6 => hM _ _ ?_
      replace s6 := Same.trans sl0 s6
      clear hM M
      refine pops_mv (.inr rfl) rfl (by simp only [St.eval, upd_at, Nat.reduceEqDiff, if_true, if_false, e0_8, e0_10, e0_6, e0_11, e0_12] <;> rfl) ?_
      refine pops_done (hR74 _ ?_)
      clear hR74 R74
      try simp only [thenK, scopeK]
      refine hN73 _ ?_
      clear hN73 N73
      refine pwp_then fun N75 hN75 => ?_
      refine pwp_reg fun R76 hR76 => ?_
      refine pops_mv (.inl rfl) rfl (by simp only [St.eval, upd_at, Nat.reduceEqDiff, if_true, if_false, e0_8, e0_10, e0_6, e0_11, e0_12] <;> rfl) ?_
      refine pops_mv (.inl rfl) rfl (by simp only [St.eval, upd_at, Nat.reduceEqDiff, if_true, if_false, e0_8, e0_10, e0_6, e0_11, e0_12] <;> rfl) ?_
      refine pops_to rfl fun M hM => ?_
      simp only [pop, St.eval, constSlot, upd_at, Nat.reduceEqDiff, if_true, if_false, popBin, binK, intK, strK, eqK, eq_self, true_and, and_true, e0_8, e0_10, e0_6, e0_11, e0_12, hw67]
      refine hM _ _ ?_
      clear hM M
      refine pops_to rfl fun M hM => ?_
      simp only [pop, St.eval, constSlot, upd_at, Nat.reduceEqDiff, if_true, if_false, popBin, binK, intK, strK, eqK, eq_self, true_and, and_true, e0_8, e0_10, e0_6, e0_11, e0_12]
      refine hM _ _ ?_
      clear hM M
      refine pops_done (hR76 _ ?_)
      clear hR76 R76
      try simp only [thenK, scopeK]
      refine hN75 _ ?_
      clear hN75 N75
      refine pwp_cond (by simp only [St.eval, upd_at, Nat.reduceEqDiff, if_true, if_false, e0_8, e0_10, e0_6, e0_11, e0_12] <;> rfl) (fun c68 => ?_) (fun c68 => ?_)
      ·skip
       have h68 : 4611686018427387904 - fracV u F < timesV (numV (s.takeWhile digitB)) u := by have := of_decide_eq_true c68; omega
       have hend : sizeN s = (0, 7) := by rw [hfs, sizeC, if_pos h68]
       refine pwp_then fun N77 hN77 => ?_
       refine pwp_reg fun R78 hR78 => ?_
       refine pops_mv (.inr rfl) rfl (by simp only [St.eval, constSlot] <;> rfl) ?_
       refine pops_mv (.inr rfl) rfl (by simp only [St.eval, constSlot] <;> rfl) ?_
       refine pops_done (hR78 _ ?_)
       clear hR78 R78
       try simp only [thenK, scopeK]
       refine hN77 _ ?_
       clear hN77 N77
       refine pwp_ret ?_
       simp only [thenK, blockK, scopeK, bodyK]
       clear hN72 N72
       refine ⟨_, rfl, endFun s6 ?_⟩
       try simp only [upd_at, Nat.reduceEqDiff, if_true, if_false, e0_8, e0_10, e0_6, e0_11, e0_12]
       all_goals
        rw [hend]
      ·skip
       have h68 : ¬ 4611686018427387904 - fracV u F < timesV (numV (s.takeWhile digitB)) u := by have := of_decide_eq_false c68; omega
       have hend : sizeN s = (((timesV (numV (s.takeWhile digitB)) u + fracV u F : Nat) : Int), 0) := by rw [hfs, sizeC, if_neg h68]
       have hw71 : IntKind.i64.wrap (((timesV (numV (s.takeWhile digitB)) u : Nat) : Int) + ((fracV u F : Nat) : Int)) = ((timesV (numV (s.takeWhile digitB)) u + fracV u F : Nat) : Int) := by rw [wrap_i64 (by omega) (by omega)]; omega
       refine pwp_skip ?_
       try simp only [thenK, scopeK]
       refine hN72 _ ?_
       clear hN72 N72
       refine pwp_then fun N79 hN79 => ?_
       refine pwp_reg fun R80 hR80 => ?_
       refine pops_mv (.inl rfl) rfl (by simp only [St.eval, upd_at, Nat.reduceEqDiff, if_true, if_false, e0_8, e0_10, e0_6, e0_11, e0_12] <;> rfl) ?_
       refine pops_mv (.inl rfl) rfl (by simp only [St.eval, upd_at, Nat.reduceEqDiff, if_true, if_false, e0_8, e0_10, e0_6, e0_11, e0_12] <;> rfl) ?_
       refine pops_to rfl fun M hM => ?_
       simp only [pop, St.eval, constSlot, upd_at, Nat.reduceEqDiff, if_true, if_false, popBin, binK, intK, strK, eqK, eq_self, true_and, and_true, e0_8, e0_10, e0_6, e0_11, e0_12, hw71]
       refine hM _ _ ?_
       clear hM M
       refine pops_mv (.inr rfl) rfl (by simp only [St.eval, upd_at, Nat.reduceEqDiff, if_true, if_false, e0_8, e0_10, e0_6, e0_11, e0_12] <;> rfl) ?_
       refine pops_mv (.inr rfl) rfl (by simp only [St.eval, constSlot] <;> rfl) ?_
       refine pops_done (hR80 _ ?_)
       clear hR80 R80
       try simp only [thenK, scopeK]
       refine hN79 _ ?_
       clear hN79 N79
       refine pwp_ret ?_
       simp only [thenK, blockK, scopeK, bodyK]
       refine ⟨_, rfl, endFun s6 ?_⟩
       try simp only [upd_at, Nat.reduceEqDiff, if_true, if_false, e0_8, e0_10, e0_6, e0_11, e0_12]
       all_goals
        rw [hend]
end Go.Pw
