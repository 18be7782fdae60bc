import Derived.Test.YtjhgmempnhjflaaDoorEncC
namespace Go.Pw
open Go Go.RowKit Go.Proofs
set_option maxRecDepth 100000
set_option linter.unusedSimpArgs false
set_option linter.unusedVariables false
theorem sz64 : szOf Tryd.prog 64 = some 6 := by kernel_rfl
/-- A function that makes a new row of strings: the caller's own. -/
theorem pcalls_newstrs {P : Program} {W0 : World} {f : FuncId} (hf : Has P f) {vals : List Value} {xs : List (List UInt8)} {n : Nat} {ty : TypeId} (hn : xs.length = n) (hlim : n ≤ maxLen)
    (H : ∀ w, Below W0.heap.size W0 w → Calls P f vals.toArray w fun e w' => e = .returned (.slice (some ⟨w.heap.size, 0, none⟩) n n) ∧ w' = w.alloc (.cells (xs.map fun x => Value.string ⟨x.toArray⟩).toArray ty)) (h : Hp) :
    PCalls P W0 f (vals.map fun v => .one (.val v)) h (fun r h' => ∃ id, h.lim ≤ id ∧ r = .sv (.one (.own id 0 0 n)) ∧ h' = h.new id ⟨ty, 1, pstrs xs, 0, true⟩) := by
  refine ⟨hf, fun w m vs R hl hv => ?_⟩
  obtain rfl := svr_vals hl hv
  refine (H w R.below).mono ?_
  rintro e w' ⟨rfl, rfl⟩
  subst hn
  have X := HR.born R (Nat.le_refl h.lim) ⟨ty, 1, pstrs xs, 0, true⟩ w.heap.size xs.length (below_alloc w (.cells (xs.map fun x => Value.string ⟨x.toArray⟩).toArray ty)) (Nat.le_refl _)
    ⟨(xs.map fun x => Value.string ⟨x.toArray⟩).toArray, (0, 0), Nat.one_pos, by rw [alloc_heap]; simp, by simp, by simp [pstrs], hlim, fun _ => rfl, .inl (Nat.le_refl _), fun i es hi => by
      simp only [pstrs, List.getElem?_map] at hi
      obtain ⟨x, hx, rfl⟩ := Option.map_eq_some_iff.1 hi
      refine ⟨rfl, fun j p hj => ?_⟩
      match j, hj with
      | 0, hj =>
        obtain rfl := Option.some.inj hj
        refine ⟨.string ⟨x.toArray⟩, ?_, .val _ rfl⟩
        simp only [Nat.mul_one, Nat.add_zero, List.getElem?_toArray, List.getElem?_map, hx, Option.map_some]⟩
  refine ⟨_, _, _, _, rfl, ⟨h.lim, Nat.le_refl _, rfl, rfl⟩, ?_, X.1, X.2⟩
  refine .own _ _ _ _ _ _ (by simp [Hp.new]) (fun b hb => Nat.zero_le _) (fun b hb _ => ?_)
  simp only [Hp.new, if_true, Option.some.injEq] at hb
  subst hb
  refine ⟨by simp [pstrs], Nat.zero_le _, fun _ => ?_⟩
  simp [Loc.set]
theorem split_own (W0 : World) (hm : HasMax W0) (s : List UInt8) (c : UInt8) (hs : s.length < 4294967281) (h : Hp) :
    PCalls Tryd.prog W0 50 [.one (pstr s), .one (.val (.string ⟨#[c]⟩))] h (fun r h' => ∃ id, h.lim ≤ id ∧ r = .sv (.one (.own id 0 0 (spl c s).length)) ∧ h' = h.new id ⟨9, 1, pstrs (spl c s), 0, true⟩) := by
  obtain ⟨m, hm⟩ := hm
  have hn : (spl c s).length = Lib.countB ⟨s.toArray⟩ ⟨#[c]⟩ + 1 := by
    rw [spl_length, Lib.countB]
    simp [Lib.count_one]
  rw [hn]
  refine pcalls_newstrs (P := Tryd.prog) (vals := [.string ⟨s.toArray⟩, .string ⟨#[c]⟩]) (n := Lib.countB ⟨s.toArray⟩ ⟨#[c]⟩ + 1) (ty := 9) ⟨_, Tryd.func50, rfl, nm50⟩ hn ?_ (fun w hb => ?_) h
  · rw [← hn, spl_length]
    have := List.count_le_length (a := c) (l := s)
    unfold maxLen; omega
  · refine (Tryd.strings_Split ⟨s.toArray⟩ ⟨#[c]⟩ m w (by rw [str_size]; exact hs) (cell_below hb hm) (Nat.le_refl _)).mono ?_
    rintro e w' ⟨rfl, rfl⟩
    refine ⟨rfl, ?_⟩
    have hd := Lib.splitB_data ⟨#[c]⟩ 0 (Lib.countB ⟨s.toArray⟩ ⟨#[c]⟩) ⟨s.toArray⟩
    have e : (Lib.splitB ⟨#[c]⟩ 0 (Lib.countB ⟨s.toArray⟩ ⟨#[c]⟩) ⟨s.toArray⟩) = (spl c s).map fun x => (⟨x.toArray⟩ : ByteArray) := by
      rw [← split_spl, Lib.split]
      have e2 : Lib.splitK [c] 0 (Lib.count s [c]) s = Lib.splitK (⟨#[c]⟩ : ByteArray).data.toList 0 (Lib.countB ⟨s.toArray⟩ ⟨#[c]⟩) (⟨s.toArray⟩ : ByteArray).data.toList := by simp [Lib.countB]
      rw [e2, ← hd, List.map_map]
      symm
      rw [List.map_congr_left (g := id) (fun x _ => by simp)]
      simp
    rw [e, List.map_map]
    rfl
abbrev encsL (x : Enc) (s : List UInt8) : List (List UInt8) := (namesR s).map (encName x)
theorem encFrom_len (x : Enc) (tk : Bool) (n : Nat) : ∀ (s : List UInt8) (i : Nat), (encFrom x tk n i s).length ≤ 3 * s.length
  | [], i => by simp [encFrom]
  | c :: s, i => by
    have ih := encFrom_len x tk n s (i + 1)
    have h1 : (encAt x tk n i c).length ≤ 3 := by
      unfold encAt
      split
      · simp
      · split <;> simp
    rw [encFrom, List.length_append, List.length_cons]; omega
theorem encName_len (x : Enc) (s : List UInt8) : (encName x s).length ≤ 3 * s.length := encFrom_len x _ _ s 0
theorem join_le (c : UInt8) (B : Nat) : ∀ xs : List (List UInt8), (∀ y ∈ xs, y.length ≤ B) → (Lib.join xs [c]).length ≤ xs.length * (B + 1)
  | [], _ => by simp [Lib.join]
  | [x], h => by rw [Lib.join_one]; have := h x (by simp); simp; omega
  | x :: y :: r, h => by
    have ih := join_le c B (y :: r) fun z hz => h z (by simp [hz])
    have hx := h x (by simp)
    rw [join_cons2]
    simp only [List.length_append, List.length_cons] at ih ⊢
    rw [Nat.succ_mul]
    omega
theorem mem_bulk {n : List UInt8} : ∀ l : List (List UInt8), n ∈ l → n.length + 1 ≤ pvWss (pstrs l)
  | [], h => by simp at h
  | a :: l, h => by
    simp only [pstrs, List.map_cons, pvWss, pvWs, pvW, str_size]
    rcases List.mem_cons.1 h with rfl | h
    · omega
    · have := mem_bulk l h
      simp only [pstrs] at this
      omega
theorem name_len {s n : List UInt8} (h : n ∈ namesR s) : n.length ≤ s.length := by
  unfold namesR at h
  split at h
  · simp at h
  · have h2 := spl_bulk 47 s
    have := mem_bulk _ h
    omega
theorem encs_join {x : Enc} {s : List UInt8} (hs : s.length ≤ 1048576) : (Lib.join (encsL x s) [47]).length ≤ 140737488355328 := by
  have h1 := join_le 47 3145728 (encsL x s) fun y hy => by
    obtain ⟨n, hn, rfl⟩ := List.mem_map.1 hy
    have := encName_len x n
    have := name_len hn
    omega
  have h2 : (encsL x s).length ≤ 1048577 := by have := namesR_len s; rw [List.length_map]; omega
  have h3 : (encsL x s).length * (3145728 + 1) ≤ 1048577 * 3145729 := Nat.mul_le_mul_right _ h2
  omega
def fillL (es : List (List UInt8)) (i : Nat) : List (List UInt8) := es.take i ++ List.replicate (es.length - i) []
theorem fillL_len {es : List (List UInt8)} {i : Nat} (h : i ≤ es.length) : (fillL es i).length = es.length := by simp [fillL]; omega
theorem fillL_get {es : List (List UInt8)} {i : Nat} (h : i < es.length) : (pstrs (fillL es i))[i]? = some [pstr []] := by
  have : (fillL es i)[i]? = some [] := by
    rw [fillL, List.getElem?_append_right (by rw [List.length_take]; omega), List.length_take, List.getElem?_replicate, if_pos (by omega)]
  simp only [List.getElem?_map, this, Option.map_some]
theorem fillL_set {es : List (List UInt8)} {i : Nat} {e : List UInt8} (h : es[i]? = some e) : (pstrs (fillL es i)).set i [pstr e] = pstrs (fillL es (i + 1)) := by
  have hlt := (List.getElem?_eq_some_iff.1 h).1
  have : (fillL es i).set i e = fillL es (i + 1) := by
    have e1 : List.replicate (es.length - i) ([] : List UInt8) = [] :: List.replicate (es.length - (i + 1)) [] := by
      rw [← List.replicate_succ]; congr 1; omega
    rw [fillL, fillL, e1, List.set_append_right _ _ (by rw [List.length_take]; omega)]
    have e2 : i - (es.take i).length = 0 := by rw [List.length_take]; omega
    rw [e2, List.set_cons_zero, List.take_add_one, h]
    simp
  rw [← this, pstrs, pstrs, List.map_set]
theorem fillL_zero (es : List (List UInt8)) : pstrs (fillL es 0) = List.replicate es.length [pstr []] := by simp [fillL, pstrs]
theorem fillL_all {es : List (List UInt8)} {i : Nat} (h : ¬ (i : Int) < (es.length : Nat)) : fillL es i = es := by
  rw [fillL, List.take_of_length_le (by omega), show es.length - i = 0 by omega]; simp
theorem encPath_1 {x : Enc} {s : List UInt8} {i : Nat} {n : List UInt8} (hn : (namesR s)[i]? = some n) (h : x.maxName < ((encName x n).length : Int)) : encPath x s = ([], 2) := by
  rw [encPath, if_pos]
  rw [List.any_eq_true]
  exact ⟨encName x n, List.mem_map.2 ⟨n, List.mem_of_getElem? hn, rfl⟩, decide_eq_true h⟩
theorem encPath_any {x : Enc} {s : List UInt8} {i : Nat} (hi : ¬ (i : Int) < ((namesR s).length : Nat)) (h : ∀ y ∈ (namesR s).take i, ((encName x y).length : Int) ≤ x.maxName) : ((namesR s).map (encName x)).any (fun n => decide (x.maxName < (n.length : Int))) = false := by
  rw [List.any_eq_false]
  intro y hy
  obtain ⟨n, hn, rfl⟩ := List.mem_map.1 hy
  rw [List.take_of_length_le (by omega)] at h
  have := h n hn
  rw [decide_eq_true_eq]; omega
theorem encPath_2 {x : Enc} {s : List UInt8} (ha : ((namesR s).map (encName x)).any (fun n => decide (x.maxName < (n.length : Int))) = false) (h : 1024 < (Lib.join (encsL x s) [47]).length) : encPath x s = ([], 2) := by
  rw [encPath, if_neg (by rw [ha]; simp), if_pos h]
theorem encPath_3 {x : Enc} {s : List UInt8} (ha : ((namesR s).map (encName x)).any (fun n => decide (x.maxName < (n.length : Int))) = false) (h : ¬ 1024 < (Lib.join (encsL x s) [47]).length) : encPath x s = (Lib.join (encsL x s) [47], 0) := by
  rw [encPath, if_neg (by rw [ha]; simp), if_neg h]
theorem row_make {P : Program} {h0 hc : Hp} {t e : TypeId} {sz by_ : Nat} {z : Value} {n : Nat} {N : Slot → Hp → Prop} (hb0 : hpOk h0) (ht : P.underlying t = some (.slice e)) (hz : szOf P e = some sz) (hby : bytesOf' P e = some by_) (hze : zeroOf P e = some z) (hzc : z.cells.size = sz) (hza : z.cells.all (·.oneCell') = true) (hpos : 0 < sz)
    (K : Keeps h0 hc) (hl : (by_ : Int) * (n : Int) ≤ 281474976710656) (hn : n ≤ 9223372036854775807) (H : ∀ sl hp', RowIs e sz h0 hp' sl (List.replicate n (zeroCells' z)) → Keeps h0 hp' → N sl hp') :
    popMakeSlice P t (.sv (.one (.val (.int .i64 (n : Int))))) (.sv (.one (.val (.int .i64 (n : Int))))) hc N := by
  unfold popMakeSlice
  simp only [ht, hz, hze, hby]
  refine ⟨hpos, hzc, hza, Int.natCast_nonneg _, Int.le_refl _, hl, by omega, fun id hid => ?_⟩
  rw [Int.toNat_natCast]
  refine H _ _ (.inr ⟨id, 0, List.replicate n (zeroCells' z), by simp, Nat.le_trans K.2 hid, blk_new _ _ _, List.take_length⟩) ⟨fun j b hj => ?_, ?_⟩
  · have := hb0 j b hj
    simp only [Hp.new]
    rw [if_neg (by have := K.2; omega)]
    exact K.1 j b hj
  · have := K.2; simp only [Hp.new]; omega
theorem nm82 : (Tryd.f82.name == "runtime.NumGoroutine") = false := by kernel_rfl
set_option maxHeartbeats 2000000 in
theorem encodePath_fun (W0 : World) (hm : HasMax W0) (x : Enc) (s : List UInt8) (hnl : x.names.length ≤ 9223372036854775807) (hs : s.length ≤ 1024) (hsd : SortedB x.names) :
  PFun Tryd.prog W0 82 [.agg (encPV x), .one (pstr s)] (.tup [.one (pstr (encPath x s).1), .one (pint (encPath x s).2)]) := by
 intro h
 have hnn2 := namesR_len s
 refine pcalls2 (n := 44) Tryd.func82 rfl nm82 rfl fun hb => ?_
 refine pwp_then fun N1 hN1 => ?_
 refine pwp_reg fun R2 hR2 => ?_
 refine pops_to rfl fun M hM => ?_
 simp only [pop, St.eval, constSlot, upd_at, Nat.reduceEqDiff, if_true, if_false, popBox, popBoxRo, slotCells, encPV]
 refine .inr ⟨Nat.succ_pos _, hM _ _ ?_⟩
 clear hM M
 refine pops_mv (.inr rfl) rfl (by simp only [St.eval, constSlot] <;> rfl) ?_
 refine pops_mv (.inr rfl) rfl (by simp only [St.eval, constSlot] <;> rfl) ?_
 refine pops_done (hR2 _ ?_)
 clear hR2 R2
 try simp only [thenK, scopeK]
 refine hN1 _ ?_
 clear hN1 N1
 refine pwp_then fun N3 hN3 => ?_
 refine pwp_reg fun R4 hR4 => ?_
 refine pops_mv (.inl rfl) rfl (by simp only [St.eval, upd_at, Nat.reduceEqDiff, if_true, if_false, encPV] <;> rfl) ?_
 refine pops_to rfl fun M hM => ?_
 simp only [pop, St.eval, constSlot, upd_at, Nat.reduceEqDiff, if_true, if_false, popCall, List.toList_toArray, List.map_cons, List.map_nil, svs, List.mapM_cons, List.mapM_nil, Option.bind_eq_bind, Option.bind_some, Option.pure_def, List.append_nil, List.cons_append, List.nil_append, str_size, encPV]
 refine PFun.use (names_split_fun W0 hm s hs) fun h1 s1 => hM _ _ ?_
 replace s1 := Same.trans (Same.refl _) s1
 clear hM M
 refine pops_mv (.inr rfl) rfl (by simp only [St.eval, upd_at, Nat.reduceEqDiff, if_true, if_false, encPV] <;> rfl) ?_
 refine pops_done (hR4 _ ?_)
 clear hR4 R4
 try simp only [thenK, scopeK]
 refine hN3 _ ?_
 clear hN3 N3
 refine pwp_then fun N5 hN5 => ?_
 refine pwp_reg fun R6 hR6 => ?_
 refine pops_mv (.inl rfl) rfl (by simp only [St.eval, upd_at, Nat.reduceEqDiff, if_true, if_false, encPV] <;> rfl) ?_
 refine pops_to rfl fun M hM => ?_
 simp only [pop, St.eval, constSlot, upd_at, Nat.reduceEqDiff, if_true, if_false, popCall, List.toList_toArray, List.map_cons, List.map_nil, popBuiltin, popLen, lenOfSlot, List.length_map, Tryd.underlying49, eq_self, true_and, and_true, str_list, str_size, str_app, str_cut, str_get, encPV]
 refine hM _ _ ?_
 clear hM M
 refine pops_to rfl fun M hM => ?_
 simp only [pop, St.eval, constSlot, upd_at, Nat.reduceEqDiff, if_true, if_false, eq_self, true_and, and_true, str_list, str_size, str_app, str_cut, str_get, encPV]
 refine row_make hb Tryd.underlying49 sz9 by9 ze9 rfl (by kernel_rfl) Nat.one_pos (Same.keeps s1) (by omega) (by omega) fun sl1 hp1 ho1 hk1 => hM _ _ ?_
 clear hM M
 refine pops_mv (.inr rfl) rfl (by simp only [St.eval, upd_at, Nat.reduceEqDiff, if_true, if_false, encPV] <;> rfl) ?_
 refine pops_done (hR6 _ ?_)
 clear hR6 R6
 try simp only [thenK, scopeK]
 refine hN5 _ ?_
 clear hN5 N5
 refine pwp_then fun N7 hN7 => ?_
 refine pwp_then fun N8 hN8 => ?_
 refine pwp_reg fun R9 hR9 => ?_
 refine pops_mv (.inl rfl) rfl (by simp only [St.eval, upd_at, Nat.reduceEqDiff, if_true, if_false, encPV] <;> rfl) ?_
 refine pops_to rfl fun M hM => ?_
 simp only [pop, St.eval, constSlot, upd_at, Nat.reduceEqDiff, if_true, if_false, popCall, List.toList_toArray, List.map_cons, List.map_nil, popBuiltin, popLen, lenOfSlot, List.length_map, Tryd.underlying49, eq_self, true_and, and_true, str_list, str_size, str_app, str_cut, str_get, encPV]
 refine hM _ _ ?_
 clear hM M
 refine pops_mv (.inl rfl) rfl (by simp only [St.eval, constSlot] <;> rfl) ?_
 refine pops_done (hR9 _ ?_)
 clear hR9 R9
 try simp only [thenK, scopeK]
 refine hN8 _ ?_
 clear hN8 N8
 refine pwp_block ?_
 refine pwp_loop (fun k σ => ∃ (i : Nat), ∃ (sl : Slot), (k = (namesR s).length - i) ∧ (i ≤ (namesR s).length) ∧ (∀ y ∈ (namesR s).take i, ((encName x y).length : Int) ≤ x.maxName) ∧ (Keeps h σ.hp ∧ RowIs 9 1 h σ.hp sl (pstrs (fillL (encsL x s) i))) ∧ (σ.env 2 = .sv (.one (.rop (encPV x)))) ∧ (σ.env 7 = sl) ∧ (σ.env 16 = .sv (.one (.ro true 1 (pstrs (namesR s))))) ∧ (σ.env 17 = .sv (.one (pint ((namesR s).length : Nat)))) ∧ (σ.env 18 = .sv (.one (pint (i : Nat))))) _ ⟨_, .refl _ _, 0, sl1, rfl, ?_⟩ ?_
 · exact ⟨Nat.zero_le _, by simp, ⟨hk1.trans (Same.keeps (Same.refl _)), by rw [fillL_zero, List.length_map]; exact ho1.same (Same.refl _)⟩, by simp only [upd_at, Nat.reduceEqDiff, if_true, if_false, encPV], by simp only [upd_at, Nat.reduceEqDiff, if_true, if_false, encPV], by simp only [upd_at, Nat.reduceEqDiff, if_true, if_false, encPV], by simp only [upd_at, Nat.reduceEqDiff, if_true, if_false, encPV], by simp only [upd_at, Nat.reduceEqDiff, if_true, if_false]; rfl⟩
 ·rintro k ⟨e, hp0⟩ ⟨i, sl, hk0, hx0_0, hx0_1, sl0, e0_2, e0_7, e0_16, e0_17, e0_18⟩
  simp only at sl0 e0_2 e0_7 e0_16 e0_17 e0_18
  obtain ⟨hk0, ho⟩ := sl0
  refine pwp_hpok fun hok0 => ?_
  simp only at hok0
  refine pwp_then fun N10 hN10 => ?_
  refine pwp_reg fun R11 hR11 => ?_
  refine pops_to rfl fun M hM => ?_
  simp only [pop, St.eval, constSlot, upd_at, Nat.reduceEqDiff, if_true, if_false, popBin, binK, intK, strK, eqK, eq_self, true_and, and_true, e0_2, e0_7, e0_16, e0_17, e0_18, encPV]
  refine hM _ _ ?_
  clear hM M
  refine pops_done (hR11 _ ?_)
  clear hR11 R11
  try simp only [thenK, scopeK]
  refine hN10 _ ?_
  clear hN10 N10
  refine pwp_then fun N12 hN12 => ?_
  refine pwp_cond (by simp only [St.eval, upd_at, Nat.reduceEqDiff, if_true, if_false, e0_2, e0_7, e0_16, e0_17, e0_18, encPV] <;> rfl) (fun c19 => ?_) (fun c19 => ?_)
  ·skip
   have hi : i < (namesR s).length := by have := of_decide_eq_true c19; omega
   obtain ⟨n, hx⟩ : ∃ n, (namesR s)[i]? = some n := ⟨_, List.getElem?_eq_getElem hi⟩
   have hget : (pstrs (namesR s))[i]? = some [pstr n] := by simp only [List.getElem?_map, hx, Option.map_some]
   have hnn := name_len (List.mem_of_getElem? hx)
   have hes : (encsL x s)[i]? = some (encName x n) := by simp only [List.getElem?_map, hx, Option.map_some]
   refine pwp_skip ?_
   try simp only [thenK, scopeK]
   refine hN12 _ ?_
   clear hN12 N12
   refine pwp_then fun N13 hN13 => ?_
   refine pwp_block ?_
   refine pwp_then fun N14 hN14 => ?_
   refine pwp_reg fun R15 hR15 => ?_
   refine pops_mv (.inl rfl) rfl (by simp only [St.eval, upd_at, Nat.reduceEqDiff, if_true, if_false, e0_2, e0_7, e0_16, e0_17, e0_18, encPV, hget, Int.toNat_natCast] <;> rfl) ?_
   refine pops_to rfl fun M hM => ?_
   simp only [pop, St.eval, constSlot, upd_at, Nat.reduceEqDiff, if_true, if_false, popIndexAddr, Tryd.underlying49, sz9, eq_self, true_and, and_true, str_list, str_size, str_app, str_cut, str_get, e0_2, e0_7, e0_16, e0_17, e0_18, encPV, hget, Int.toNat_natCast]
   refine ⟨Int.natCast_nonneg _, hM _ _ ?_⟩
   clear hM M
   refine pops_to rfl fun M hM => ?_
   simp only [pop, St.eval, constSlot, upd_at, Nat.reduceEqDiff, if_true, if_false, popLoad, loadK, isAggD, List.drop_zero, List.getElem?_toArray, List.getElem?_cons_zero, List.getElem?_cons_succ, Bool.false_eq_true, Tryd.underlying9, sz9, eq_self, true_and, and_true, e0_2, e0_7, e0_16, e0_17, e0_18, encPV, hget, Int.toNat_natCast]
   refine hM _ _ ?_
   clear hM M
   refine pops_mv (.inr rfl) rfl (by simp only [St.eval, upd_at, Nat.reduceEqDiff, if_true, if_false, e0_2, e0_7, e0_16, e0_17, e0_18, encPV, hget, Int.toNat_natCast] <;> rfl) ?_
   refine pops_mv (.inr rfl) rfl (by simp only [St.eval, upd_at, Nat.reduceEqDiff, if_true, if_false, e0_2, e0_7, e0_16, e0_17, e0_18, encPV, hget, Int.toNat_natCast] <;> rfl) ?_
   refine pops_done (hR15 _ ?_)
   clear hR15 R15
   try simp only [thenK, scopeK]
   refine hN14 _ ?_
   clear hN14 N14
   refine pwp_then fun N16 hN16 => ?_
   refine pwp_reg fun R17 hR17 => ?_
   refine pops_mv (.inl rfl) rfl (by simp only [St.eval, upd_at, Nat.reduceEqDiff, if_true, if_false, e0_2, e0_7, e0_16, e0_17, e0_18, encPV, hget, Int.toNat_natCast] <;> rfl) ?_
   refine pops_mv (.inl rfl) rfl (by simp only [St.eval, upd_at, Nat.reduceEqDiff, if_true, if_false, e0_2, e0_7, e0_16, e0_17, e0_18, encPV, hget, Int.toNat_natCast] <;> rfl) ?_
   refine pops_to rfl fun M hM => ?_
   simp only [pop, St.eval, constSlot, upd_at, Nat.reduceEqDiff, if_true, if_false, List.length_cons, List.length_nil, Nat.zero_add, Nat.reduceAdd, Nat.reduceLeDiff, List.take_zero, List.take_succ_cons, List.take_nil, List.drop_succ_cons, List.drop_zero, List.drop_nil, List.nil_append, List.cons_append, List.append_nil, and_self, List.getElem?_cons_zero, List.getElem?_cons_succ, List.set_cons_zero, List.set_cons_succ, Option.some.injEq, popLoad, loadK, isAggD, List.drop_zero, List.getElem?_toArray, List.getElem?_cons_zero, List.getElem?_cons_succ, Bool.false_eq_true, Tryd.underlying64, sz64, eq_self, true_and, and_true, e0_2, e0_7, e0_16, e0_17, e0_18, encPV, hget, Int.toNat_natCast]
   refine hM _ _ ?_
   clear hM M
   refine pops_mv (.inl rfl) rfl (by simp only [St.eval, upd_at, Nat.reduceEqDiff, if_true, if_false, e0_2, e0_7, e0_16, e0_17, e0_18, encPV, hget, Int.toNat_natCast] <;> rfl) ?_
   refine pops_to rfl fun M hM => ?_
   simp only [pop, St.eval, constSlot, upd_at, Nat.reduceEqDiff, if_true, if_false, popCall, List.toList_toArray, List.map_cons, List.map_nil, svs, List.mapM_cons, List.mapM_nil, Option.bind_eq_bind, Option.bind_some, Option.pure_def, List.append_nil, List.cons_append, List.nil_append, str_size, e0_2, e0_7, e0_16, e0_17, e0_18, encPV, hget, Int.toNat_natCast]
   refine PFun.use (encodeName_fun W0 x n (by omega) hnl hsd) fun h2 s2 => hM _ _ ?_
   replace s2 := Same.trans (Same.refl _) s2
   clear hM M
   refine pops_to rfl fun M hM => ?_
   simp only [pop, St.eval, constSlot, upd_at, Nat.reduceEqDiff, if_true, if_false, eq_self, true_and, and_true, str_list, str_size, str_app, str_cut, str_get, e0_2, e0_7, e0_16, e0_17, e0_18, encPV, hget, Int.toNat_natCast]
   refine row_at Tryd.underlying49 sz9 (ho.same s2) rfl (by rw [List.length_map, fillL_len (by rw [List.length_map]; omega), List.length_map]; exact hi) fun id1 ver1 es1 E1 => hM _ _ ?_
   clear hM M
   refine pops_no fun M hM => ?_
   simp only [pop, St.eval, constSlot, upd_at, Nat.reduceEqDiff, if_true, if_false, eq_self, true_and, and_true, str_list, str_size, str_app, str_cut, str_get, e0_2, e0_7, e0_16, e0_17, e0_18, encPV, hget, Int.toNat_natCast]
   refine el_store E1 hb (hk0.trans (Same.keeps s2)) (fillL_get (by rw [List.length_map]; exact hi)) rfl sz9 (Nat.le_refl 1) fun hp2 ho2 hk2 => hM _ _ ?_
   rw [show splice [pstr []] 0 [pstr (encName x n)] = [pstr (encName x n)] from rfl, fillL_set hes] at ho2
   clear hM M
   refine pops_done (hR17 _ ?_)
   clear hR17 R17
   try simp only [thenK, scopeK]
   refine hN16 _ ?_
   clear hN16 N16
   refine pwp_then fun N18 hN18 => ?_
   have hlf : (pstrs (fillL (encsL x s) (i + 1))).length = (namesR s).length := by rw [List.length_map, fillL_len (by rw [List.length_map]; omega), List.length_map]
   obtain ⟨id2, ver2, es2, hsl2, hl2, hbk2, htk2, hgt2⟩ := ho2.open (by rw [hlf]; omega)
   have hg2 : es2[i]? = some [pstr (encName x n)] := by rw [hgt2 i (by rw [hlf]; omega), ← fillL_set hes]; exact List.getElem?_set_self (by rw [List.length_map, fillL_len (by rw [List.length_map]; omega), List.length_map]; exact hi)
   refine pwp_dreg 8 mixed (by decide +kernel) fun R19 hR19 => ?_
   simp only [List.take_succ_cons, List.take_zero, List.drop_succ_cons, List.drop_zero]
   apply lex_to
   · rfl
   ·intro h' s' M hM
    simp only [pop, St.eval, constSlot, upd_at, Nat.reduceEqDiff, if_true, if_false, eq_self, true_and, and_true, str_list, str_size, str_app, str_cut, str_get, e0_2, e0_7, e0_16, e0_17, e0_18, encPV, hget, Int.toNat_natCast, hsl2, s'.1]
    exact hM _ (.refl _)
   apply lex_to
   · rfl
   ·intro h' s' M hM
    simp only [pop, St.eval, constSlot, upd_at, Nat.reduceEqDiff, if_true, if_false, eq_self, true_and, and_true, str_list, str_size, str_app, str_cut, str_get, e0_2, e0_7, e0_16, e0_17, e0_18, encPV, hget, Int.toNat_natCast, hsl2, s'.1]
    exact hM _ (.refl _)
   apply lex_to
   · rfl
   ·intro h' s' M hM
    simp only [pop, St.eval, constSlot, upd_at, Nat.reduceEqDiff, if_true, if_false, popIndexAddr, Tryd.underlying49, sz9, eq_self, true_and, and_true, str_list, str_size, str_app, str_cut, str_get, e0_2, e0_7, e0_16, e0_17, e0_18, encPV, hget, Int.toNat_natCast, hsl2, hbk2, hlf, Int.toNat_natCast, Nat.zero_add, s'.1]
    refine ⟨Int.natCast_nonneg _, by omega, ?_⟩
    exact hM _ (.refl _)
   apply lex_to
   · rfl
   ·intro h' s' M hM
    simp only [pop, St.eval, constSlot, upd_at, Nat.reduceEqDiff, if_true, if_false, popLoad, loadK, isAggD, List.drop_zero, List.getElem?_toArray, List.getElem?_cons_zero, List.getElem?_cons_succ, Bool.false_eq_true, Tryd.underlying9, sz9, eq_self, true_and, and_true, e0_2, e0_7, e0_16, e0_17, e0_18, encPV, hget, Int.toNat_natCast, hsl2, hbk2, hg2, s'.1]
    exact hM _ (.refl _)
   apply lex_to
   · rfl
   ·intro h' s' M hM
    simp only [pop, St.eval, constSlot, upd_at, Nat.reduceEqDiff, if_true, if_false, popCall, List.toList_toArray, List.map_cons, List.map_nil, popBuiltin, popLen, lenOfSlot, List.length_map, Tryd.underlying9, eq_self, true_and, and_true, str_list, str_size, str_app, str_cut, str_get, e0_2, e0_7, e0_16, e0_17, e0_18, encPV, hget, Int.toNat_natCast, hsl2, s'.1]
    exact hM _ (.refl _)
   apply lex_to
   · rfl
   ·intro h' s' M hM
    simp only [pop, St.eval, constSlot, upd_at, Nat.reduceEqDiff, if_true, if_false, popFieldAddr, fieldOf, List.drop_succ_cons, List.drop_zero, List.getElem?_toArray, List.getElem?_cons_zero, List.getElem?_cons_succ, Tryd.underlying64, sz3, e0_2, e0_7, e0_16, e0_17, e0_18, encPV, hget, Int.toNat_natCast, hsl2, s'.1]
    exact ⟨⟨_, rfl⟩, hM _ (.refl _)⟩
   apply lex_to
   · rfl
   ·intro h' s' M hM
    simp only [pop, St.eval, constSlot, upd_at, Nat.reduceEqDiff, if_true, if_false, popLoad, loadK, isAggD, List.drop_zero, List.getElem?_toArray, List.getElem?_cons_zero, List.getElem?_cons_succ, Bool.false_eq_true, Tryd.underlying3, sz3, eq_self, true_and, and_true, e0_2, e0_7, e0_16, e0_17, e0_18, encPV, hget, Int.toNat_natCast, hsl2, s'.1]
    exact hM _ (.refl _)
   apply lex_to
   · rfl
   ·intro h' s' M hM
    simp only [pop, St.eval, constSlot, upd_at, Nat.reduceEqDiff, if_true, if_false, popBin, binK, intK, strK, eqK, eq_self, true_and, and_true, e0_2, e0_7, e0_16, e0_17, e0_18, encPV, hget, Int.toNat_natCast, hsl2, s'.1]
    exact hM _ (.refl _)
   refine lex_done fun hq sq => ?_
   skip
   refine pops_done (hR19 _ ?_)
   clear hR19 R19
   try simp only [thenK, scopeK]
   refine hN18 _ ?_
   clear hN18 N18
   refine pwp_cond (by simp only [St.eval, upd_at, Nat.reduceEqDiff, if_true, if_false, e0_2, e0_7, e0_16, e0_17, e0_18, encPV, hget, Int.toNat_natCast, hsl2] <;> rfl) (fun c36 => ?_) (fun c36 => ?_)
   ·skip
    have he := encPath_1 hx (of_decide_eq_true c36)
    refine pwp_then fun N20 hN20 => ?_
    refine pwp_reg fun R21 hR21 => ?_
    refine pops_mv (.inr rfl) rfl (by simp only [St.eval, constSlot] <;> rfl) ?_
    refine pops_mv (.inr rfl) rfl (by simp only [St.eval, constSlot] <;> rfl) ?_
    refine pops_done (hR21 _ ?_)
    clear hR21 R21
    try simp only [thenK, scopeK]
    refine hN20 _ ?_
    clear hN20 N20
    refine pwp_ret ?_
    simp only [thenK, blockK, scopeK, bodyK]
    clear hN13 N13 hN7 N7
    exact ⟨_, rfl, by rw [he]; exact endKeeps2 (hk2.trans (Same.keeps sq)) rfl⟩
   ·skip
    have hle := of_decide_eq_false c36
    refine pwp_skip ?_
    try simp only [blockK, thenK, scopeK]
    try simp only [thenK, scopeK]
    refine hN13 _ ?_
    clear hN13 N13
    refine pwp_reg fun R22 hR22 => ?_
    refine pops_to rfl fun M hM => ?_
    simp only [pop, St.eval, constSlot, upd_at, Nat.reduceEqDiff, if_true, if_false, popBin, binK, intK, strK, eqK, eq_self, true_and, and_true, e0_2, e0_7, e0_16, e0_17, e0_18, encPV, hget, Int.toNat_natCast, hsl2]
    refine hM _ _ ?_
    clear hM M
    refine pops_mv (.inl rfl) rfl (by simp only [St.eval, upd_at, Nat.reduceEqDiff, if_true, if_false, e0_2, e0_7, e0_16, e0_17, e0_18, encPV, hget, Int.toNat_natCast, hsl2] <;> rfl) ?_
    refine pops_done (hR22 _ ?_)
    clear hR22 R22
    try simp only [thenK, scopeK]
    exact ⟨_, by omega, _, .refl _ _, i + 1, sl, rfl, by omega, by rw [List.take_add_one, hx]; simp only [Option.toList_some, List.mem_append, List.mem_singleton]; rintro y (hy | rfl); exact hx0_1 y hy; omega, ⟨hk2.trans (Same.keeps sq), ho2.same sq⟩, by simp only [upd_at, Nat.reduceEqDiff, if_true, if_false, e0_2, e0_7, e0_16, e0_17, e0_18, encPV, hget, Int.toNat_natCast, hsl2], by simp only [upd_at, Nat.reduceEqDiff, if_true, if_false, e0_2, e0_7, e0_16, e0_17, e0_18, encPV, hget, Int.toNat_natCast, hsl2], by simp only [upd_at, Nat.reduceEqDiff, if_true, if_false, e0_2, e0_7, e0_16, e0_17, e0_18, encPV, hget, Int.toNat_natCast, hsl2], by simp only [upd_at, Nat.reduceEqDiff, if_true, if_false, e0_2, e0_7, e0_16, e0_17, e0_18, encPV, hget, Int.toNat_natCast, hsl2], by simp only [upd_at, Nat.reduceEqDiff, if_true, if_false, e0_18]; rw [wrap_succ (by omega)]⟩
  ·skip
   have hi := of_decide_eq_false c19
   have hany := encPath_any hi hx0_1
   refine pwp_exit ?_
   try simp only [thenK, blockK, scopeK, if_true, Nat.reduceEqDiff, if_false]
   clear hN12 N12
   try simp only [blockK, scopeK, if_true, Nat.reduceEqDiff, if_false, thenK]
   try simp only [thenK, scopeK]
   refine hN7 _ ?_
   clear hN7 N7
   refine pwp_then fun N23 hN23 => ?_
   rw [fillL_all (by rw [List.length_map]; exact hi)] at ho
   refine pwp_freezeRow 7 (by simp only [upd_at, Nat.reduceEqDiff, if_true, if_false, e0_7]) ho hb hk0 fun hp9 hk9 => ?_
   refine pwp_reg fun R24 hR24 => ?_
   refine pops_mv (.inl rfl) rfl (by simp only [St.eval, upd_at, Nat.reduceEqDiff, if_true, if_false, e0_2, e0_7, e0_16, e0_17, e0_18, encPV] <;> rfl) ?_
   refine pops_to rfl fun M hM => ?_
   simp only [pop, St.eval, constSlot, upd_at, Nat.reduceEqDiff, if_true, if_false, popCall, List.toList_toArray, List.map_cons, List.map_nil, svs, List.mapM_cons, List.mapM_nil, Option.bind_eq_bind, Option.bind_some, Option.pure_def, List.append_nil, List.cons_append, List.nil_append, str_size, e0_2, e0_7, e0_16, e0_17, e0_18, encPV]
   refine PFun.use (join_fun W0 false (encsL x s) (by rw [List.length_map]; omega) (encs_join (by omega))) fun h3 s3 => hM _ _ ?_
   replace s3 := Same.trans (Same.refl _) s3
   clear hM M
   refine pops_mv (.inr rfl) rfl (by simp only [St.eval, upd_at, Nat.reduceEqDiff, if_true, if_false, e0_2, e0_7, e0_16, e0_17, e0_18, encPV] <;> rfl) ?_
   refine pops_done (hR24 _ ?_)
   clear hR24 R24
   try simp only [thenK, scopeK]
   refine hN23 _ ?_
   clear hN23 N23
   refine pwp_then fun N25 hN25 => ?_
   refine pwp_then fun N26 hN26 => ?_
   refine pwp_reg fun R27 hR27 => ?_
   refine pops_mv (.inl rfl) rfl (by simp only [St.eval, upd_at, Nat.reduceEqDiff, if_true, if_false, e0_2, e0_7, e0_16, e0_17, e0_18, encPV] <;> rfl) ?_
   refine pops_to rfl fun M hM => ?_
   simp only [pop, St.eval, constSlot, upd_at, Nat.reduceEqDiff, if_true, if_false, popCall, List.toList_toArray, List.map_cons, List.map_nil, popBuiltin, popLen, lenOfSlot, List.length_map, Tryd.underlying9, eq_self, true_and, and_true, str_list, str_size, str_app, str_cut, str_get, e0_2, e0_7, e0_16, e0_17, e0_18, encPV]
   refine hM _ _ ?_
   clear hM M
   refine pops_to rfl fun M hM => ?_
   simp only [pop, St.eval, constSlot, upd_at, Nat.reduceEqDiff, if_true, if_false, popBin, binK, intK, strK, eqK, eq_self, true_and, and_true, e0_2, e0_7, e0_16, e0_17, e0_18, encPV]
   refine hM _ _ ?_
   clear hM M
   refine pops_done (hR27 _ ?_)
   clear hR27 R27
   try simp only [thenK, scopeK]
   refine hN26 _ ?_
   clear hN26 N26
   refine pwp_cond (by simp only [St.eval, upd_at, Nat.reduceEqDiff, if_true, if_false, e0_2, e0_7, e0_16, e0_17, e0_18, encPV] <;> rfl) (fun c42 => ?_) (fun c42 => ?_)
   ·skip
    have he := encPath_2 hany (by have := of_decide_eq_true c42; omega)
    refine pwp_then fun N28 hN28 => ?_
    refine pwp_reg fun R29 hR29 => ?_
    refine pops_mv (.inr rfl) rfl (by simp only [St.eval, constSlot] <;> rfl) ?_
    refine pops_mv (.inr rfl) rfl (by simp only [St.eval, constSlot] <;> rfl) ?_
    refine pops_done (hR29 _ ?_)
    clear hR29 R29
    try simp only [thenK, scopeK]
    refine hN28 _ ?_
    clear hN28 N28
    refine pwp_ret ?_
    simp only [thenK, blockK, scopeK, bodyK]
    clear hN25 N25
    exact ⟨_, rfl, by rw [he]; exact endKeeps2 (hk9.trans (Same.keeps s3)) rfl⟩
   ·skip
    have he := encPath_3 hany (by have := of_decide_eq_false c42; omega)
    refine pwp_skip ?_
    try simp only [thenK, scopeK]
    refine hN25 _ ?_
    clear hN25 N25
    refine pwp_then fun N30 hN30 => ?_
    refine pwp_reg fun R31 hR31 => ?_
    refine pops_mv (.inl rfl) rfl (by simp only [St.eval, upd_at, Nat.reduceEqDiff, if_true, if_false, e0_2, e0_7, e0_16, e0_17, e0_18, encPV] <;> rfl) ?_
    refine pops_mv (.inr rfl) rfl (by simp only [St.eval, upd_at, Nat.reduceEqDiff, if_true, if_false, e0_2, e0_7, e0_16, e0_17, e0_18, encPV] <;> rfl) ?_
    refine pops_mv (.inr rfl) rfl (by simp only [St.eval, constSlot] <;> rfl) ?_
    refine pops_done (hR31 _ ?_)
    clear hR31 R31
    try simp only [thenK, scopeK]
    refine hN30 _ ?_
    clear hN30 N30
    refine pwp_ret ?_
    simp only [thenK, blockK, scopeK, bodyK]
    exact ⟨_, rfl, by rw [he]; exact endKeeps2 (hk9.trans (Same.keeps s3)) rfl⟩

theorem nm44 : (Tryd.f44.name == "runtime.NumGoroutine") = false := by kernel_rfl
theorem encode_fun (W0 : World) (hm : HasMax W0) (x : Enc) (s : List UInt8) (hnl : x.names.length ≤ 9223372036854775807) (hf : ∀ y ∈ [x.forbid, x.head, x.tail], y.length ≤ 9223372036854775807) :
  PFun Tryd.prog W0 44 [.agg (encPV x), .one (pstr s)] (.tup [.one (pstr (encodeR x s).1), .one (pint (encodeR x s).2)]) := by
 intro h
 refine pcalls2 (n := 23) Tryd.func44 rfl nm44 rfl fun hb => ?_
 refine pwp_then fun N1 hN1 => ?_
 refine pwp_reg fun R2 hR2 => ?_
 refine pops_to rfl fun M hM => ?_
 simp only [pop, St.eval, constSlot, upd_at, Nat.reduceEqDiff, if_true, if_false, popBox, popBoxRo, slotCells, encPV]
 refine .inr ⟨Nat.succ_pos _, hM _ _ ?_⟩
 clear hM M
 refine pops_mv (.inr rfl) rfl (by simp only [St.eval, constSlot] <;> rfl) ?_
 refine pops_mv (.inr rfl) rfl (by simp only [St.eval, constSlot] <;> rfl) ?_
 refine pops_done (hR2 _ ?_)
 clear hR2 R2
 try simp only [thenK, scopeK]
 refine hN1 _ ?_
 clear hN1 N1
 refine pwp_then fun N3 hN3 => ?_
 refine pwp_then fun N4 hN4 => ?_
 refine pwp_reg fun R5 hR5 => ?_
 refine pops_to rfl fun M hM => ?_
 simp only [pop, St.eval, constSlot, upd_at, Nat.reduceEqDiff, if_true, if_false, List.length_cons, List.length_nil, Nat.zero_add, Nat.reduceAdd, Nat.reduceLeDiff, List.take_zero, List.take_succ_cons, List.take_nil, List.drop_succ_cons, List.drop_zero, List.drop_nil, List.nil_append, List.cons_append, List.append_nil, and_self, List.getElem?_cons_zero, List.getElem?_cons_succ, List.set_cons_zero, List.set_cons_succ, Option.some.injEq, popLoad, loadK, isAggD, List.drop_zero, List.getElem?_toArray, List.getElem?_cons_zero, List.getElem?_cons_succ, Bool.false_eq_true, Tryd.underlying64, sz64, eq_self, true_and, and_true, encPV]
 refine hM _ _ ?_
 clear hM M
 refine pops_to rfl fun M hM => ?_
 simp only [pop, St.eval, constSlot, upd_at, Nat.reduceEqDiff, if_true, if_false, popCall, List.toList_toArray, List.map_cons, List.map_nil, svs, List.mapM_cons, List.mapM_nil, Option.bind_eq_bind, Option.bind_some, Option.pure_def, List.append_nil, List.cons_append, List.nil_append, str_size, encPV]
 refine PFun.use (checkEnc_fun W0 x hf hnl) fun h1 s1 => hM _ _ ?_
 replace s1 := Same.trans (Same.refl _) s1
 clear hM M
 refine pops_mv (.inr rfl) rfl (by simp only [St.eval, upd_at, Nat.reduceEqDiff, if_true, if_false, encPV] <;> rfl) ?_
 refine pops_done (hR5 _ ?_)
 clear hR5 R5
 try simp only [thenK, scopeK]
 refine hN4 _ ?_
 clear hN4 N4
 refine pwp_then fun N6 hN6 => ?_
 refine pwp_reg fun R7 hR7 => ?_
 refine pops_mv (.inl rfl) rfl (by simp only [St.eval, upd_at, Nat.reduceEqDiff, if_true, if_false, encPV] <;> rfl) ?_
 refine pops_to rfl fun M hM => ?_
 simp only [pop, St.eval, constSlot, upd_at, Nat.reduceEqDiff, if_true, if_false, popBin, binK, intK, strK, eqK, Tryd.underlying31, isPtr, eq_self, true_and, and_true, encPV]
 refine hM _ _ ?_
 clear hM M
 refine pops_done (hR7 _ ?_)
 clear hR7 R7
 try simp only [thenK, scopeK]
 refine hN6 _ ?_
 clear hN6 N6
 refine pwp_cond (by simp only [St.eval, upd_at, Nat.reduceEqDiff, if_true, if_false, encPV] <;> rfl) (fun c11 => ?_) (fun c11 => ?_)
 ·skip
  have hec : encCheckR x ≠ 0 := by simpa using c11
  refine pwp_then fun N8 hN8 => ?_
  refine pwp_reg fun R9 hR9 => ?_
  refine pops_mv (.inl rfl) rfl (by simp only [St.eval, upd_at, Nat.reduceEqDiff, if_true, if_false, encPV] <;> rfl) ?_
  refine pops_mv (.inr rfl) rfl (by simp only [St.eval, constSlot] <;> rfl) ?_
  refine pops_mv (.inr rfl) rfl (by simp only [St.eval, upd_at, Nat.reduceEqDiff, if_true, if_false, encPV] <;> rfl) ?_
  refine pops_done (hR9 _ ?_)
  clear hR9 R9
  try simp only [thenK, scopeK]
  refine hN8 _ ?_
  clear hN8 N8
  refine pwp_ret ?_
  simp only [thenK, blockK, scopeK, bodyK]
  clear hN3 N3
  refine ⟨_, rfl, endFun s1 ?_⟩
  try simp only [upd_at, Nat.reduceEqDiff, if_true, if_false, encPV]
  all_goals
   rw [encodeR, if_neg hec]
 ·skip
  have hec : encCheckR x = 0 := by simpa using c11
  have hsd := encCheck_sorted hec
  refine pwp_skip ?_
  try simp only [thenK, scopeK]
  refine hN3 _ ?_
  clear hN3 N3
  refine pwp_then fun N10 hN10 => ?_
  refine pwp_then fun N11 hN11 => ?_
  refine pwp_reg fun R12 hR12 => ?_
  refine pops_mv (.inl rfl) rfl (by simp only [St.eval, upd_at, Nat.reduceEqDiff, if_true, if_false, encPV] <;> rfl) ?_
  refine pops_to rfl fun M hM => ?_
  simp only [pop, St.eval, constSlot, upd_at, Nat.reduceEqDiff, if_true, if_false, popCall, List.toList_toArray, List.map_cons, List.map_nil, svs, List.mapM_cons, List.mapM_nil, Option.bind_eq_bind, Option.bind_some, Option.pure_def, List.append_nil, List.cons_append, List.nil_append, str_size, encPV]
  refine PFun.use (check_fun W0 hm isNameB s (fun y _ => isName_fun W0 y)) fun h2 s2 => hM _ _ ?_
  replace s2 := Same.trans s1 s2
  clear hM M
  refine pops_mv (.inr rfl) rfl (by simp only [St.eval, upd_at, Nat.reduceEqDiff, if_true, if_false, encPV] <;> rfl) ?_
  refine pops_done (hR12 _ ?_)
  clear hR12 R12
  try simp only [thenK, scopeK]
  refine hN11 _ ?_
  clear hN11 N11
  refine pwp_then fun N13 hN13 => ?_
  refine pwp_reg fun R14 hR14 => ?_
  refine pops_mv (.inl rfl) rfl (by simp only [St.eval, upd_at, Nat.reduceEqDiff, if_true, if_false, encPV] <;> rfl) ?_
  refine pops_to rfl fun M hM => ?_
  simp only [pop, St.eval, constSlot, upd_at, Nat.reduceEqDiff, if_true, if_false, popBin, binK, intK, strK, eqK, Tryd.underlying31, isPtr, eq_self, true_and, and_true, encPV]
  refine hM _ _ ?_
  clear hM M
  refine pops_done (hR14 _ ?_)
  clear hR14 R14
  try simp only [thenK, scopeK]
  refine hN13 _ ?_
  clear hN13 N13
  refine pwp_cond (by simp only [St.eval, upd_at, Nat.reduceEqDiff, if_true, if_false, encPV] <;> rfl) (fun c16 => ?_) (fun c16 => ?_)
  ·skip
   have hp : isPathB s = false := by
     cases h9 : isPathB s with
     | false => rfl
     | true => rw [checkR_eq, h9] at c16; simp at c16
   refine pwp_then fun N15 hN15 => ?_
   refine pwp_reg fun R16 hR16 => ?_
   refine pops_mv (.inl rfl) rfl (by simp only [St.eval, upd_at, Nat.reduceEqDiff, if_true, if_false, encPV] <;> rfl) ?_
   refine pops_mv (.inr rfl) rfl (by simp only [St.eval, constSlot] <;> rfl) ?_
   refine pops_mv (.inr rfl) rfl (by simp only [St.eval, upd_at, Nat.reduceEqDiff, if_true, if_false, encPV] <;> rfl) ?_
   refine pops_done (hR16 _ ?_)
   clear hR16 R16
   try simp only [thenK, scopeK]
   refine hN15 _ ?_
   clear hN15 N15
   refine pwp_ret ?_
   simp only [thenK, blockK, scopeK, bodyK]
   clear hN10 N10
   refine ⟨_, rfl, endFun s2 ?_⟩
   try simp only [upd_at, Nat.reduceEqDiff, if_true, if_false, encPV]
   all_goals
    rw [encodeR, if_pos hec, encR, hp, checkR_eq, hp]
    rfl
  ·skip
   have hp : isPathB s = true := by
     cases h9 : isPathB s with
     | true => rfl
     | false => rw [checkR_eq, h9] at c16; simp at c16
   have hlen := isPathB_len hp
   refine pwp_skip ?_
   try simp only [thenK, scopeK]
   refine hN10 _ ?_
   clear hN10 N10
   refine pwp_then fun N17 hN17 => ?_
   refine pwp_reg fun R18 hR18 => ?_
   refine pops_to rfl fun M hM => ?_
   simp only [pop, St.eval, constSlot, upd_at, Nat.reduceEqDiff, if_true, if_false, List.length_cons, List.length_nil, Nat.zero_add, Nat.reduceAdd, Nat.reduceLeDiff, List.take_zero, List.take_succ_cons, List.take_nil, List.drop_succ_cons, List.drop_zero, List.drop_nil, List.nil_append, List.cons_append, List.append_nil, and_self, List.getElem?_cons_zero, List.getElem?_cons_succ, List.set_cons_zero, List.set_cons_succ, Option.some.injEq, popLoad, loadK, isAggD, List.drop_zero, List.getElem?_toArray, List.getElem?_cons_zero, List.getElem?_cons_succ, Bool.false_eq_true, Tryd.underlying64, sz64, eq_self, true_and, and_true, encPV]
   refine hM _ _ ?_
   clear hM M
   refine pops_mv (.inl rfl) rfl (by simp only [St.eval, upd_at, Nat.reduceEqDiff, if_true, if_false, encPV] <;> rfl) ?_
   refine pops_to rfl fun M hM => ?_
   simp only [pop, St.eval, constSlot, upd_at, Nat.reduceEqDiff, if_true, if_false, popCall, List.toList_toArray, List.map_cons, List.map_nil, svs, List.mapM_cons, List.mapM_nil, Option.bind_eq_bind, Option.bind_some, Option.pure_def, List.append_nil, List.cons_append, List.nil_append, str_size, encPV]
   refine PFun.use (encodePath_fun W0 hm x s hnl hlen hsd) fun h3 s3 => hM _ _ ?_
   replace s3 := Same.trans s2 s3
   clear hM M
   refine pops_to rfl fun M hM => ?_
   simp only [pop, St.eval, constSlot, upd_at, Nat.reduceEqDiff, if_true, if_false, List.getElem?_toArray, List.getElem?_cons_zero, List.getElem?_cons_succ, encPV]
   refine hM _ _ ?_
   clear hM M
   refine pops_to rfl fun M hM => ?_
   simp only [pop, St.eval, constSlot, upd_at, Nat.reduceEqDiff, if_true, if_false, List.getElem?_toArray, List.getElem?_cons_zero, List.getElem?_cons_succ, encPV]
   refine hM _ _ ?_
   clear hM M
   refine pops_mv (.inr rfl) rfl (by simp only [St.eval, upd_at, Nat.reduceEqDiff, if_true, if_false, encPV] <;> rfl) ?_
   refine pops_mv (.inr rfl) rfl (by simp only [St.eval, upd_at, Nat.reduceEqDiff, if_true, if_false, encPV] <;> rfl) ?_
   refine pops_done (hR18 _ ?_)
   clear hR18 R18
   try simp only [thenK, scopeK]
   refine hN17 _ ?_
   clear hN17 N17
   refine pwp_ret ?_
   simp only [thenK, blockK, scopeK, bodyK]
   refine ⟨_, rfl, endFun s3 ?_⟩
   try simp only [upd_at, Nat.reduceEqDiff, if_true, if_false, encPV]
   all_goals
    rw [encodeR, if_pos hec, encR, if_pos hp]
end Go.Pw
