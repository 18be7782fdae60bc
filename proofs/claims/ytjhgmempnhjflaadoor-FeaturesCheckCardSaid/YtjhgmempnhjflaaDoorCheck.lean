import Derived.Test.YtjhgmempnhjflaaDoorPaths
import Derived.Test.YtjhgmempnhjflaaDoorPwY
namespace Go.Pw
open Go Go.RowKit Go.Proofs
set_option maxRecDepth 100000
set_option linter.unusedSimpArgs false
set_option linter.unusedVariables false
theorem join_spl (c : UInt8) : ∀ s : List UInt8, Lib.join (spl c s) [c] = s
  | [] => rfl
  | b :: l => by
    have ih := join_spl c l
    obtain ⟨x, r, e⟩ : ∃ x r, spl c l = x :: r := List.exists_cons_of_ne_nil (spl_ne c l)
    rw [e, Lib.join_cons] at ih
    simp only [spl, e, List.headD_cons, List.tail_cons]
    split
    · rename_i h
      rw [Lib.join_cons, h]
      simp only [Lib.joinTail, List.map_cons, List.flatten_cons, List.nil_append, List.cons_append] at ih ⊢
      rw [ih]
    · rw [Lib.join_cons, List.cons_append, ih]
theorem has30 : Has Tryd.prog 30 := ⟨_, Tryd.func30, rfl, by kernel_rfl⟩
theorem join_fun (W0 : World) (full : Bool) (xs : List (List UInt8)) (hn : xs.length ≤ 140737488355328) (hj : (Lib.join xs [47]).length ≤ 140737488355328) :
    PFun Tryd.prog W0 30 [.one (.ro full 1 (pstrs xs)), .one (.val (.string ⟨#[47]⟩))] (.sv (.one (pstr (Lib.join xs [47])))) := by
  refine fun h => ⟨has30, fun w m vs R hl hv => ?_⟩
  match vs, hl with
  | [v0, v1], _ =>
    have h0 := hv 0 _ v0 rfl rfl
    have h1 := hv 1 _ v1 rfl rfl
    have e1 : v1 = .string ⟨#[47]⟩ := by cases h1; rfl
    subst e1
    have done : ∀ e w', e = Ending.returned (.string ⟨(Lib.join xs [47]).toArray⟩) → Below w.heap.size w w' → ∃ v r h' m', e = .returned v ∧ (r = Slot.sv (.one (pstr (Lib.join xs [47]))) ∧ Same h h') ∧ LR w' h' m' r v ∧ HR W0 w' h' m' ∧ Ext w h m w' h' m' :=
      fun e w' he hb => ⟨_, _, h, m, he, ⟨rfl, .refl _⟩, .val _ rfl, R.grow hb, Ext.grow hb⟩
    rcases vr_strs h0 with ⟨rfl, a, c, rfl⟩ | ⟨g, off, c, rfl, hg, hc, hcell⟩
    · exact (Tryd.strings_Join_none a c ⟨#[47]⟩ w).mono fun e w' ⟨he, hw⟩ => done e w' (he.trans rfl) (hw ▸ Below.refl' w)
    · have hm : (xs.map fun x => (⟨x.toArray⟩ : ByteArray)).map (·.data.toList) = xs := by
        rw [List.map_map, List.map_congr_left (g := id) (fun x _ => by simp)]
        simp
      have hs : (⟨#[47]⟩ : ByteArray).data.toList = [47] := rfl
      have := Tryd.strings_Join g off c (xs.map fun x => (⟨x.toArray⟩ : ByteArray)) ⟨#[47]⟩ w (fun j x hx => by
        rw [List.getElem?_map] at hx
        obtain ⟨y, hy, rfl⟩ := Option.map_eq_some_iff.1 hx
        exact hcell j y hy) hg (by simpa using hn) (by simpa using hc) (by rw [hm, hs]; exact hj)
      rw [hm, hs, List.length_map] at this
      exact this.mono fun e w' ⟨he, hb⟩ => done e w' he hb
def lastK (s : List UInt8) : Int := Lib.lastIndexByte ⟨s.toArray⟩ 47
theorem lastK_range (s : List UInt8) : -1 ≤ lastK s ∧ lastK s < s.length ∨ lastK s = -1 := by
  have := Lib.lastIndexByte_spec ⟨s.toArray⟩ 47
  rw [str_size] at this
  unfold lastK
  rcases this with ⟨h, _⟩ | ⟨i, h1, h2, _⟩
  · exact .inr h
  · exact .inl (by omega)
theorem has43 : Has Tryd.prog 43 := ⟨_, Tryd.func43, rfl, by kernel_rfl⟩
theorem lastIx_fun (W0 : World) (s : List UInt8) (h : s.length < 4611686018427387904) : PFun Tryd.prog W0 43 [.one (pstr s), .one (.val (.int .u8 47))] (.sv (.one (pint (lastK s)))) :=
  pfun_same (P := Tryd.prog) (vals := [.string ⟨s.toArray⟩, .int .u8 47]) has43 rfl fun w _ => Tryd.strings_LastIndexByte ⟨s.toArray⟩ 47 (by rw [str_size]; exact h) w
def namesR (s : List UInt8) : List (List UInt8) := if s = [] then [] else spl 47 s
def aboveR (s : List UInt8) : List UInt8 × List UInt8 × Int :=
  if !isPathB s then ([], [], 1) else if s = [] then ([], [], 21) else if lastK s < 0 then ([], s, 0) else (s.take (lastK s).toNat, s.drop (lastK s + 1).toNat, 0)
def joinR (xs : List (List UInt8)) : List UInt8 × Int :=
  if !(xs.all isNameB) then ([], 2) else if 1024 < (Lib.join xs [47]).length then ([], 1) else (Lib.join xs [47], 0)
def lowC (c : UInt8) : UInt8 := if 65 ≤ c.toNat ∧ c.toNat ≤ 90 then c + 32 else c
theorem lowC_toNat (c : UInt8) (h : 65 ≤ c.toNat ∧ c.toNat ≤ 90) : ((lowC c).toNat : Int) = c.toNat + 32 := by
  unfold lowC
  rw [if_pos h, UInt8.toNat_add]
  have : (32 : UInt8).toNat = 32 := rfl
  omega
theorem wrap_u8 {x : Int} (h1 : 0 ≤ x) (h2 : x < 256) : IntKind.u8.wrap x = x := by
  have : IntKind.u8.wrap x = x % 256 := by simp [IntKind.wrap, IntKind.bits, IntKind.signed]
  omega
/-- A list whose first places are turned. -/
theorem low_step {s : List UInt8} {i : Nat} {c : UInt8} (hx : s[i]? = some c) : ((s.take i).map lowC ++ s.drop i).set i (lowC c) = (s.take (i + 1)).map lowC ++ s.drop (i + 1) := by
  have hi := (List.getElem?_eq_some_iff.1 hx).1
  apply List.ext_getElem?
  intro j
  rw [List.getElem?_set]
  simp only [List.length_append, List.length_map, List.length_take, List.length_drop, List.getElem?_append, List.getElem?_map, List.getElem?_take, List.getElem?_drop]
  by_cases h1 : i = j
  · subst h1
    have hv := (List.getElem?_eq_some_iff.1 hx).2
    simp [hx, hi, Nat.min_eq_left (Nat.le_of_lt hi), Nat.min_eq_left hi, hv]
    omega
  · simp only [if_neg h1]
    by_cases h2 : j < i
    · have h3 : j < min i s.length := by omega
      have h4 : j < min (i + 1) s.length := by omega
      rw [if_pos h3, if_pos h4, if_pos h2, if_pos (by omega)]
    · have h3 : ¬ j < min i s.length := by omega
      have h4 : ¬ j < min (i + 1) s.length := by omega
      rw [if_neg h3, if_neg h4]
      congr 1
      omega
theorem low_get {s : List UInt8} {i : Nat} {c : UInt8} (hx : s[i]? = some c) : ((s.take i).map lowC ++ s.drop i)[i]? = some c := by
  have hi := (List.getElem?_eq_some_iff.1 hx).1
  rw [List.getElem?_append_right (by simp; omega)]
  simp [hx, Nat.min_eq_left (Nat.le_of_lt hi)]
theorem low_len (s : List UInt8) (i : Nat) (hi : i ≤ s.length) : ((s.take i).map lowC ++ s.drop i).length = s.length := by
  simp; omega
theorem set_same {s : List UInt8} {i : Nat} {c : UInt8} (h : s[i]? = some c) : s.set i c = s := by
  apply List.ext_getElem?
  intro j
  rw [List.getElem?_set]
  split
  · rename_i e
    subst e
    split
    · exact h.symm
    · rename_i h2
      rw [List.getElem?_eq_none (by omega)] at h
      cases h
  · rfl
theorem low_same {s : List UInt8} {i : Nat} {c : UInt8} (hx : s[i]? = some c) (hc : lowC c = c) : (s.take i).map lowC ++ s.drop i = (s.take (i + 1)).map lowC ++ s.drop (i + 1) := by
  rw [← low_step hx, hc]
  exact (set_same (low_get hx)).symm
theorem joinR_1 {xs : List (List UInt8)} (h : xs.all isNameB = false) : joinR xs = ([], 2) := by unfold joinR; rw [h]; rfl
theorem joinR_2 {xs : List (List UInt8)} (h : xs.all isNameB = true) (hl : 1024 < (Lib.join xs [47]).length) : joinR xs = ([], 1) := by unfold joinR; rw [h, if_pos hl]; rfl
theorem joinR_3 {xs : List (List UInt8)} (h : xs.all isNameB = true) (hl : ¬ 1024 < (Lib.join xs [47]).length) : joinR xs = (Lib.join xs [47], 0) := by unfold joinR; rw [h, if_neg hl]; rfl
theorem namesR_all {s : List UInt8} (h : isPathB s = true) : (namesR s).all isNameB = true := by
  unfold namesR
  split
  · rfl
  · rename_i hs
    unfold isPathB at h
    simp only [Bool.or_eq_true, beq_iff_eq, hs, false_or, Bool.and_eq_true] at h
    exact h.2
theorem namesR_join (s : List UInt8) : Lib.join (namesR s) [47] = s := by
  unfold namesR
  split
  · rename_i hs; rw [hs]; rfl
  · exact join_spl 47 s
theorem namesR_len (s : List UInt8) : (namesR s).length ≤ s.length + 1 := by
  unfold namesR
  split
  · simp
  · rw [spl_length]
    have := List.count_le_length (a := (47 : UInt8)) (l := s)
    omega
theorem aboveR_val {s : List UInt8} (hp : isPathB s = true) (hs : ¬ s = []) : (aboveR s).1 = s.take (if 0 > lastK s then 0 else lastK s).toNat ∧ (aboveR s).2.1 = s.drop (lastK s + 1).toNat ∧ (aboveR s).2.2 = 0 := by
  unfold aboveR
  rw [hp, if_neg hs]
  have hk := lastK_range s
  by_cases h : lastK s < 0
  · have : lastK s = -1 := by omega
    simp [this]
  · have h2 : ¬ 0 > lastK s := by omega
    simp [h]
theorem nm79 : (Tryd.f79.name == "runtime.NumGoroutine") = false := by kernel_rfl
theorem names_split_fun (W0 : World) (hm : HasMax W0) (s : List UInt8) (hl : s.length ≤ 1024) :
  PFun Tryd.prog W0 79 [.one (pstr s)] (.sv (.one (.ro true 1 (pstrs (namesR s))))) := by
 intro h
 refine pcalls1 (n := 7) Tryd.func79 rfl nm79 rfl fun hb => ?_
 refine pwp_then fun N1 hN1 => ?_
 refine pwp_reg fun R2 hR2 => ?_
 refine pops_to rfl fun M hM => ?_
 simp only [pop, St.eval, constSlot, upd_at, Nat.reduceEqDiff, if_true, if_false, eq_self, true_and, and_true, str_list, str_size, str_app, str_cut, str_get]
 refine hM _ _ ?_
 clear hM M
 refine pops_done (hR2 _ ?_)
 clear hR2 R2
 try simp only [thenK, scopeK]
 refine hN1 _ ?_
 clear hN1 N1
 refine pwp_then fun N3 hN3 => ?_
 refine pwp_then fun N4 hN4 => ?_
 refine pwp_reg fun R5 hR5 => ?_
 refine pops_to rfl fun M hM => ?_
 simp only [pop, St.eval, constSlot, upd_at, Nat.reduceEqDiff, if_true, if_false, eq_self, true_and, and_true, str_list, str_size, str_app, str_cut, str_get]
 refine hM _ _ ?_
 clear hM M
 refine pops_to rfl fun M hM => ?_
 simp only [pop, St.eval, constSlot, upd_at, Nat.reduceEqDiff, if_true, if_false, popBin, binK, intK, strK, eqK, Tryd.underlying9, isPtr, eq_self, true_and, and_true, str_list, str_size, str_app, str_cut, str_get]
 refine hM _ _ ?_
 clear hM M
 refine pops_done (hR5 _ ?_)
 clear hR5 R5
 try simp only [thenK, scopeK]
 refine hN4 _ ?_
 clear hN4 N4
 refine pwp_cond (by simp only [St.eval, upd_at, Nat.reduceEqDiff, if_true, if_false] <;> rfl) (fun c4 => ?_) (fun c4 => ?_)
 ·skip
  have hs : s = [] := by simpa using c4
  refine pwp_then fun N6 hN6 => ?_
  refine pwp_reg fun R7 hR7 => ?_
  refine pops_to rfl fun M hM => ?_
  simp only [pop, St.eval, constSlot, upd_at, Nat.reduceEqDiff, if_true, if_false, eq_self, true_and, and_true, str_list, str_size, str_app, str_cut, str_get]
  refine hM _ _ ?_
  clear hM M
  refine pops_done (hR7 _ ?_)
  clear hR7 R7
  try simp only [thenK, scopeK]
  refine hN6 _ ?_
  clear hN6 N6
  refine pwp_ret ?_
  simp only [thenK, blockK, scopeK, bodyK]
  clear hN3 N3
  refine ⟨_, rfl, _, _, .nil1 1, ?_, .refl _⟩
  rw [namesR, if_pos hs]
  rfl
 ·skip
  have hs : ¬ s = [] := by simpa using c4
  refine pwp_skip ?_
  try simp only [thenK, scopeK]
  refine hN3 _ ?_
  clear hN3 N3
  refine pwp_then fun N8 hN8 => ?_
  refine pwp_reg fun R9 hR9 => ?_
  refine pops_to rfl fun M hM => ?_
  simp only [pop, St.eval, constSlot, upd_at, Nat.reduceEqDiff, if_true, if_false, eq_self, true_and, and_true, str_list, str_size, str_app, str_cut, str_get]
  refine hM _ _ ?_
  clear hM M
  refine pops_to rfl fun M hM => ?_
  simp only [pop, St.eval, constSlot, upd_at, Nat.reduceEqDiff, if_true, if_false, popCall, List.toList_toArray, List.map_cons, List.map_nil, svs, List.mapM_cons, List.mapM_nil, Option.bind_eq_bind, Option.bind_some, Option.pure_def, List.append_nil, List.cons_append, List.nil_append, eq_self, true_and, and_true, str_list, str_size, str_app, str_cut, str_get]
  refine PFun.use (split_fun W0 hm s 47 (by omega)) fun h1 s1 => hM _ _ ?_
  replace s1 := Same.trans (Same.refl _) s1
  clear hM M
  refine pops_to rfl fun M hM => ?_
  simp only [pop, St.eval, constSlot, upd_at, Nat.reduceEqDiff, if_true, if_false, eq_self, true_and, and_true, str_list, str_size, str_app, str_cut, str_get]
  refine hM _ _ ?_
  clear hM M
  refine pops_done (hR9 _ ?_)
  clear hR9 R9
  try simp only [thenK, scopeK]
  refine hN8 _ ?_
  clear hN8 N8
  refine pwp_ret ?_
  simp only [thenK, blockK, scopeK, bodyK]
  refine ⟨_, rfl, endFun s1 ?_⟩
  try simp only [upd_at, Nat.reduceEqDiff, if_true, if_false]
  all_goals
   rw [namesR, if_neg hs]

theorem nm38 : (Tryd.f38.name == "runtime.NumGoroutine") = false := by kernel_rfl
theorem parts_fun (W0 : World) (hm : HasMax W0) (s : List UInt8) :
  PFun Tryd.prog W0 38 [.one (pstr s)] (.tup [.one (.ro true 1 (pstrs (if isPathB s then namesR s else []))), .one (pint (if isPathB s then 0 else 1))]) := by
 intro h
 refine pcalls1 (n := 12) Tryd.func38 rfl nm38 rfl fun hb => ?_
 refine pwp_then fun N1 hN1 => ?_
 refine pwp_reg fun R2 hR2 => ?_
 refine pops_to rfl fun M hM => ?_
 simp only [pop, St.eval, constSlot, upd_at, Nat.reduceEqDiff, if_true, if_false, eq_self, true_and, and_true, str_list, str_size, str_app, str_cut, str_get]
 refine hM _ _ ?_
 clear hM M
 refine pops_to rfl fun M hM => ?_
 simp only [pop, St.eval, constSlot, upd_at, Nat.reduceEqDiff, if_true, if_false, eq_self, true_and, and_true, str_list, str_size, str_app, str_cut, str_get]
 refine hM _ _ ?_
 clear hM M
 refine pops_done (hR2 _ ?_)
 clear hR2 R2
 try simp only [thenK, scopeK]
 refine hN1 _ ?_
 clear hN1 N1
 refine pwp_then fun N3 hN3 => ?_
 refine pwp_then fun N4 hN4 => ?_
 refine pwp_reg fun R5 hR5 => ?_
 refine pops_to rfl fun M hM => ?_
 simp only [pop, St.eval, constSlot, upd_at, Nat.reduceEqDiff, if_true, if_false, eq_self, true_and, and_true, str_list, str_size, str_app, str_cut, str_get]
 refine hM _ _ ?_
 clear hM M
 refine pops_to rfl fun M hM => ?_
 simp only [pop, St.eval, constSlot, upd_at, Nat.reduceEqDiff, if_true, if_false, popCall, List.toList_toArray, List.map_cons, List.map_nil, svs, List.mapM_cons, List.mapM_nil, Option.bind_eq_bind, Option.bind_some, Option.pure_def, List.append_nil, List.cons_append, List.nil_append, eq_self, true_and, and_true, str_list, str_size, str_app, str_cut, str_get]
 refine PFun.use (check_fun W0 hm isNameB s (fun y _ => isName_fun W0 y)) fun h1 s1 => hM _ _ ?_
 replace s1 := Same.trans (Same.refl _) s1
 clear hM M
 refine pops_to rfl fun M hM => ?_
 simp only [pop, St.eval, constSlot, upd_at, Nat.reduceEqDiff, if_true, if_false, eq_self, true_and, and_true, str_list, str_size, str_app, str_cut, str_get]
 refine hM _ _ ?_
 clear hM M
 refine pops_done (hR5 _ ?_)
 clear hR5 R5
 try simp only [thenK, scopeK]
 refine hN4 _ ?_
 clear hN4 N4
 refine pwp_then fun N6 hN6 => ?_
 refine pwp_reg fun R7 hR7 => ?_
 refine pops_to rfl fun M hM => ?_
 simp only [pop, St.eval, constSlot, upd_at, Nat.reduceEqDiff, if_true, if_false, eq_self, true_and, and_true, str_list, str_size, str_app, str_cut, str_get]
 refine hM _ _ ?_
 clear hM M
 refine pops_to rfl fun M hM => ?_
 simp only [pop, St.eval, constSlot, upd_at, Nat.reduceEqDiff, if_true, if_false, popBin, binK, intK, strK, eqK, Tryd.underlying31, isPtr, eq_self, true_and, and_true, str_list, str_size, str_app, str_cut, str_get]
 refine hM _ _ ?_
 clear hM M
 refine pops_done (hR7 _ ?_)
 clear hR7 R7
 try simp only [thenK, scopeK]
 refine hN6 _ ?_
 clear hN6 N6
 refine pwp_cond (by simp only [St.eval, upd_at, Nat.reduceEqDiff, if_true, if_false] <;> rfl) (fun c8 => ?_) (fun c8 => ?_)
 ·skip
  have hp : isPathB s = false := by
    cases h9 : isPathB s with
    | false => rfl
    | true => rw [checkR_eq, h9] at c8; simp at c8
  refine pwp_then fun N8 hN8 => ?_
  refine pwp_reg fun R9 hR9 => ?_
  refine pops_to rfl fun M hM => ?_
  simp only [pop, St.eval, constSlot, upd_at, Nat.reduceEqDiff, if_true, if_false, eq_self, true_and, and_true, str_list, str_size, str_app, str_cut, str_get]
  refine hM _ _ ?_
  clear hM M
  refine pops_to rfl fun M hM => ?_
  simp only [pop, St.eval, constSlot, upd_at, Nat.reduceEqDiff, if_true, if_false, eq_self, true_and, and_true, str_list, str_size, str_app, str_cut, str_get]
  refine hM _ _ ?_
  clear hM M
  refine pops_to rfl fun M hM => ?_
  simp only [pop, St.eval, constSlot, upd_at, Nat.reduceEqDiff, if_true, if_false, eq_self, true_and, and_true, str_list, str_size, str_app, str_cut, str_get]
  refine hM _ _ ?_
  clear hM M
  refine pops_done (hR9 _ ?_)
  clear hR9 R9
  try simp only [thenK, scopeK]
  refine hN8 _ ?_
  clear hN8 N8
  refine pwp_ret ?_
  simp only [thenK, blockK, scopeK, bodyK]
  clear hN3 N3
  refine ⟨_, rfl, _, _, .nil2 1 _, ?_, s1⟩
  rw [checkR_eq, hp]
  rfl
 ·skip
  have hp : isPathB s = true := by
    cases h9 : isPathB s with
    | true => rfl
    | false => rw [checkR_eq, h9] at c8; simp at c8
  have hlen := isPathB_len hp
  refine pwp_skip ?_
  try simp only [thenK, scopeK]
  refine hN3 _ ?_
  clear hN3 N3
  refine pwp_then fun N10 hN10 => ?_
  refine pwp_reg fun R11 hR11 => ?_
  refine pops_to rfl fun M hM => ?_
  simp only [pop, St.eval, constSlot, upd_at, Nat.reduceEqDiff, if_true, if_false, eq_self, true_and, and_true, str_list, str_size, str_app, str_cut, str_get]
  refine hM _ _ ?_
  clear hM M
  refine pops_to rfl fun M hM => ?_
  simp only [pop, St.eval, constSlot, upd_at, Nat.reduceEqDiff, if_true, if_false, popCall, List.toList_toArray, List.map_cons, List.map_nil, svs, List.mapM_cons, List.mapM_nil, Option.bind_eq_bind, Option.bind_some, Option.pure_def, List.append_nil, List.cons_append, List.nil_append, eq_self, true_and, and_true, str_list, str_size, str_app, str_cut, str_get]
  refine PFun.use (names_split_fun W0 hm s hlen) fun h2 s2 => hM _ _ ?_
  replace s2 := Same.trans s1 s2
  clear hM M
  refine pops_to rfl fun M hM => ?_
  simp only [pop, St.eval, constSlot, upd_at, Nat.reduceEqDiff, if_true, if_false, eq_self, true_and, and_true, str_list, str_size, str_app, str_cut, str_get]
  refine hM _ _ ?_
  clear hM M
  refine pops_to rfl fun M hM => ?_
  simp only [pop, St.eval, constSlot, upd_at, Nat.reduceEqDiff, if_true, if_false, eq_self, true_and, and_true, str_list, str_size, str_app, str_cut, str_get]
  refine hM _ _ ?_
  clear hM M
  refine pops_done (hR11 _ ?_)
  clear hR11 R11
  try simp only [thenK, scopeK]
  refine hN10 _ ?_
  clear hN10 N10
  refine pwp_ret ?_
  simp only [thenK, blockK, scopeK, bodyK]
  refine ⟨_, rfl, endFun s2 ?_⟩
  try simp only [upd_at, Nat.reduceEqDiff, if_true, if_false]
  all_goals
   rw [hp]
   rfl

theorem nm39 : (Tryd.f39.name == "runtime.NumGoroutine") = false := by kernel_rfl
theorem above_fun (W0 : World) (hm : HasMax W0) (s : List UInt8) :
  PFun Tryd.prog W0 39 [.one (pstr s)] (.tup [.one (pstr (aboveR s).1), .one (pstr (aboveR s).2.1), .one (pint (aboveR s).2.2)]) := by
 intro h
 refine pcalls1 (n := 26) Tryd.func39 rfl nm39 rfl fun hb => ?_
 refine pwp_then fun N1 hN1 => ?_
 refine pwp_reg fun R2 hR2 => ?_
 refine pops_to rfl fun M hM => ?_
 simp only [pop, St.eval, constSlot, upd_at, Nat.reduceEqDiff, if_true, if_false, eq_self, true_and, and_true, str_list, str_size, str_app, str_cut, str_get]
 refine hM _ _ ?_
 clear hM M
 refine pops_to rfl fun M hM => ?_
 simp only [pop, St.eval, constSlot, upd_at, Nat.reduceEqDiff, if_true, if_false, eq_self, true_and, and_true, str_list, str_size, str_app, str_cut, str_get]
 refine hM _ _ ?_
 clear hM M
 refine pops_to rfl fun M hM => ?_
 simp only [pop, St.eval, constSlot, upd_at, Nat.reduceEqDiff, if_true, if_false, eq_self, true_and, and_true, str_list, str_size, str_app, str_cut, str_get]
 refine hM _ _ ?_
 clear hM M
 refine pops_done (hR2 _ ?_)
 clear hR2 R2
 try simp only [thenK, scopeK]
 refine hN1 _ ?_
 clear hN1 N1
 refine pwp_then fun N3 hN3 => ?_
 refine pwp_then fun N4 hN4 => ?_
 refine pwp_reg fun R5 hR5 => ?_
 refine pops_to rfl fun M hM => ?_
 simp only [pop, St.eval, constSlot, upd_at, Nat.reduceEqDiff, if_true, if_false, eq_self, true_and, and_true, str_list, str_size, str_app, str_cut, str_get]
 refine hM _ _ ?_
 clear hM M
 refine pops_to rfl fun M hM => ?_
 simp only [pop, St.eval, constSlot, upd_at, Nat.reduceEqDiff, if_true, if_false, popCall, List.toList_toArray, List.map_cons, List.map_nil, svs, List.mapM_cons, List.mapM_nil, Option.bind_eq_bind, Option.bind_some, Option.pure_def, List.append_nil, List.cons_append, List.nil_append, eq_self, true_and, and_true, str_list, str_size, str_app, str_cut, str_get]
 refine PFun.use (check_fun W0 hm isNameB s (fun y _ => isName_fun W0 y)) fun h1 s1 => hM _ _ ?_
 replace s1 := Same.trans (Same.refl _) s1
 clear hM M
 refine pops_to rfl fun M hM => ?_
 simp only [pop, St.eval, constSlot, upd_at, Nat.reduceEqDiff, if_true, if_false, eq_self, true_and, and_true, str_list, str_size, str_app, str_cut, str_get]
 refine hM _ _ ?_
 clear hM M
 refine pops_done (hR5 _ ?_)
 clear hR5 R5
 try simp only [thenK, scopeK]
 refine hN4 _ ?_
 clear hN4 N4
 refine pwp_then fun N6 hN6 => ?_
 refine pwp_reg fun R7 hR7 => ?_
 refine pops_to rfl fun M hM => ?_
 simp only [pop, St.eval, constSlot, upd_at, Nat.reduceEqDiff, if_true, if_false, eq_self, true_and, and_true, str_list, str_size, str_app, str_cut, str_get]
 refine hM _ _ ?_
 clear hM M
 refine pops_to rfl fun M hM => ?_
 simp only [pop, St.eval, constSlot, upd_at, Nat.reduceEqDiff, if_true, if_false, popBin, binK, intK, strK, eqK, Tryd.underlying31, isPtr, eq_self, true_and, and_true, str_list, str_size, str_app, str_cut, str_get]
 refine hM _ _ ?_
 clear hM M
 refine pops_done (hR7 _ ?_)
 clear hR7 R7
 try simp only [thenK, scopeK]
 refine hN6 _ ?_
 clear hN6 N6
 refine pwp_cond (by simp only [St.eval, upd_at, Nat.reduceEqDiff, if_true, if_false] <;> rfl) (fun c10 => ?_) (fun c10 => ?_)
 ·skip
  have hp : isPathB s = false := by
    cases h9 : isPathB s with
    | false => rfl
    | true => rw [checkR_eq, h9] at c10; simp at c10
  refine pwp_then fun N8 hN8 => ?_
  refine pwp_reg fun R9 hR9 => ?_
  refine pops_to rfl fun M hM => ?_
  simp only [pop, St.eval, constSlot, upd_at, Nat.reduceEqDiff, if_true, if_false, eq_self, true_and, and_true, str_list, str_size, str_app, str_cut, str_get]
  refine hM _ _ ?_
  clear hM M
  refine pops_to rfl fun M hM => ?_
  simp only [pop, St.eval, constSlot, upd_at, Nat.reduceEqDiff, if_true, if_false, eq_self, true_and, and_true, str_list, str_size, str_app, str_cut, str_get]
  refine hM _ _ ?_
  clear hM M
  refine pops_to rfl fun M hM => ?_
  simp only [pop, St.eval, constSlot, upd_at, Nat.reduceEqDiff, if_true, if_false, eq_self, true_and, and_true, str_list, str_size, str_app, str_cut, str_get]
  refine hM _ _ ?_
  clear hM M
  refine pops_to rfl fun M hM => ?_
  simp only [pop, St.eval, constSlot, upd_at, Nat.reduceEqDiff, if_true, if_false, eq_self, true_and, and_true, str_list, str_size, str_app, str_cut, str_get]
  refine hM _ _ ?_
  clear hM M
  refine pops_done (hR9 _ ?_)
  clear hR9 R9
  try simp only [thenK, scopeK]
  refine hN8 _ ?_
  clear hN8 N8
  refine pwp_ret ?_
  simp only [thenK, blockK, scopeK, bodyK]
  clear hN3 N3
  refine ⟨_, rfl, endFun s1 ?_⟩
  try simp only [upd_at, Nat.reduceEqDiff, if_true, if_false]
  all_goals
   rw [checkR_eq, hp]
   simp [aboveR, hp]
 ·skip
  have hp : isPathB s = true := by
    cases h9 : isPathB s with
    | true => rfl
    | false => rw [checkR_eq, h9] at c10; simp at c10
  have hlen := isPathB_len hp
  refine pwp_skip ?_
  try simp only [thenK, scopeK]
  refine hN3 _ ?_
  clear hN3 N3
  refine pwp_then fun N10 hN10 => ?_
  refine pwp_then fun N11 hN11 => ?_
  refine pwp_reg fun R12 hR12 => ?_
  refine pops_to rfl fun M hM => ?_
  simp only [pop, St.eval, constSlot, upd_at, Nat.reduceEqDiff, if_true, if_false, eq_self, true_and, and_true, str_list, str_size, str_app, str_cut, str_get]
  refine hM _ _ ?_
  clear hM M
  refine pops_to rfl fun M hM => ?_
  simp only [pop, St.eval, constSlot, upd_at, Nat.reduceEqDiff, if_true, if_false, popBin, binK, intK, strK, eqK, Tryd.underlying9, isPtr, eq_self, true_and, and_true, str_list, str_size, str_app, str_cut, str_get]
  refine hM _ _ ?_
  clear hM M
  refine pops_done (hR12 _ ?_)
  clear hR12 R12
  try simp only [thenK, scopeK]
  refine hN11 _ ?_
  clear hN11 N11
  refine pwp_cond (by simp only [St.eval, upd_at, Nat.reduceEqDiff, if_true, if_false] <;> rfl) (fun c13 => ?_) (fun c13 => ?_)
  ·skip
   have hs : s = [] := by simpa using c13
   refine pwp_then fun N13 hN13 => ?_
   refine pwp_reg fun R14 hR14 => ?_
   refine pops_to rfl fun M hM => ?_
   simp only [pop, St.eval, constSlot, upd_at, Nat.reduceEqDiff, if_true, if_false, eq_self, true_and, and_true, str_list, str_size, str_app, str_cut, str_get]
   refine hM _ _ ?_
   clear hM M
   refine pops_to rfl fun M hM => ?_
   simp only [pop, St.eval, constSlot, upd_at, Nat.reduceEqDiff, if_true, if_false, eq_self, true_and, and_true, str_list, str_size, str_app, str_cut, str_get]
   refine hM _ _ ?_
   clear hM M
   refine pops_to rfl fun M hM => ?_
   simp only [pop, St.eval, constSlot, upd_at, Nat.reduceEqDiff, if_true, if_false, eq_self, true_and, and_true, str_list, str_size, str_app, str_cut, str_get]
   refine hM _ _ ?_
   clear hM M
   refine pops_done (hR14 _ ?_)
   clear hR14 R14
   try simp only [thenK, scopeK]
   refine hN13 _ ?_
   clear hN13 N13
   refine pwp_ret ?_
   simp only [thenK, blockK, scopeK, bodyK]
   clear hN10 N10
   refine ⟨_, rfl, endFun s1 ?_⟩
   try simp only [upd_at, Nat.reduceEqDiff, if_true, if_false]
   all_goals
    have ha : aboveR s = ([], [], 21) := by unfold aboveR; rw [hp, if_pos hs]; rfl
    rw [ha]
  ·skip
   have hs : ¬ s = [] := by simpa using c13
   refine pwp_skip ?_
   try simp only [thenK, scopeK]
   refine hN10 _ ?_
   clear hN10 N10
   refine pwp_then fun N15 hN15 => ?_
   refine pwp_reg fun R16 hR16 => ?_
   refine pops_to rfl fun M hM => ?_
   simp only [pop, St.eval, constSlot, upd_at, Nat.reduceEqDiff, if_true, if_false, eq_self, true_and, and_true, str_list, str_size, str_app, str_cut, str_get]
   refine hM _ _ ?_
   clear hM M
   refine pops_to rfl fun M hM => ?_
   simp only [pop, St.eval, constSlot, upd_at, Nat.reduceEqDiff, if_true, if_false, popCall, List.toList_toArray, List.map_cons, List.map_nil, svs, List.mapM_cons, List.mapM_nil, Option.bind_eq_bind, Option.bind_some, Option.pure_def, List.append_nil, List.cons_append, List.nil_append, eq_self, true_and, and_true, str_list, str_size, str_app, str_cut, str_get]
   refine PFun.use (lastIx_fun W0 s (by omega)) fun h2 s2 => hM _ _ ?_
   replace s2 := Same.trans s1 s2
   clear hM M
   refine pops_to rfl fun M hM => ?_
   simp only [pop, St.eval, constSlot, upd_at, Nat.reduceEqDiff, if_true, if_false, eq_self, true_and, and_true, str_list, str_size, str_app, str_cut, str_get]
   refine hM _ _ ?_
   clear hM M
   refine pops_done (hR16 _ ?_)
   clear hR16 R16
   try simp only [thenK, scopeK]
   refine hN15 _ ?_
   clear hN15 N15
   refine pwp_then fun N17 hN17 => ?_
   refine pwp_then fun N18 hN18 => ?_
   refine pwp_reg fun R19 hR19 => ?_
   refine pops_to rfl fun M hM => ?_
   simp only [pop, St.eval, constSlot, upd_at, Nat.reduceEqDiff, if_true, if_false, eq_self, true_and, and_true, str_list, str_size, str_app, str_cut, str_get]
   refine hM _ _ ?_
   clear hM M
   refine pops_to rfl fun M hM => ?_
   simp only [pop, St.eval, constSlot, upd_at, Nat.reduceEqDiff, if_true, if_false, popBin, binK, intK, strK, eqK, eq_self, true_and, and_true, str_list, str_size, str_app, str_cut, str_get]
   refine hM _ _ ?_
   clear hM M
   refine pops_done (hR19 _ ?_)
   clear hR19 R19
   try simp only [thenK, scopeK]
   refine hN18 _ ?_
   clear hN18 N18
   refine pwp_cond (by simp only [St.eval, upd_at, Nat.reduceEqDiff, if_true, if_false] <;> rfl) (fun c17 => ?_) (fun c17 => ?_)
   ·skip
    refine pwp_then fun N20 hN20 => ?_
    refine pwp_reg fun R21 hR21 => ?_
    refine pops_to rfl fun M hM => ?_
    simp only [pop, St.eval, constSlot, upd_at, Nat.reduceEqDiff, if_true, if_false, eq_self, true_and, and_true, str_list, str_size, str_app, str_cut, str_get]
    refine hM _ _ ?_
    clear hM M
    refine pops_to rfl fun M hM => ?_
    simp only [pop, St.eval, constSlot, upd_at, Nat.reduceEqDiff, if_true, if_false, eq_self, true_and, and_true, str_list, str_size, str_app, str_cut, str_get]
    refine hM _ _ ?_
    clear hM M
    refine pops_to rfl fun M hM => ?_
    simp only [pop, St.eval, constSlot, upd_at, Nat.reduceEqDiff, if_true, if_false, eq_self, true_and, and_true, str_list, str_size, str_app, str_cut, str_get]
    refine hM _ _ ?_
    clear hM M
    refine pops_to rfl fun M hM => ?_
    simp only [pop, St.eval, constSlot, upd_at, Nat.reduceEqDiff, if_true, if_false, eq_self, true_and, and_true, str_list, str_size, str_app, str_cut, str_get]
    refine hM _ _ ?_
    clear hM M
    refine pops_done (hR21 _ ?_)
    clear hR21 R21
    try simp only [thenK, scopeK]
    refine hN20 _ ?_
    clear hN20 N20
    refine pwp_ret ?_
    simp only [thenK, blockK, scopeK, bodyK]
    clear hN17 N17
    refine ⟨_, rfl, endFun s2 ?_⟩
    try simp only [upd_at, Nat.reduceEqDiff, if_true, if_false]
    all_goals
     have := of_decide_eq_true c17
     simp [aboveR, hp, hs, this]
   ·skip
    have hk := lastK_range s
    have hk2 := of_decide_eq_false c17
    have hw : IntKind.i64.wrap (lastK s + 1) = lastK s + 1 := wrap_i64 (by omega) (by omega)
    refine pwp_skip ?_
    try simp only [thenK, scopeK]
    refine hN17 _ ?_
    clear hN17 N17
    refine pwp_then fun N22 hN22 => ?_
    refine pwp_dreg 10 mixed (by decide +kernel) fun R23 hR23 => ?_
    simp only [List.take_succ_cons, List.take_zero, List.drop_succ_cons, List.drop_zero]
    apply lex_to
    · rfl
    ·intro h' s' M hM
     simp only [pop, St.eval, constSlot, upd_at, Nat.reduceEqDiff, if_true, if_false, eq_self, true_and, and_true, str_list, str_size, str_app, str_cut, str_get, s'.1]
     exact hM _ (.refl _)
    apply lex_to
    · rfl
    ·intro h' s' M hM
     simp only [pop, St.eval, constSlot, upd_at, Nat.reduceEqDiff, if_true, if_false, eq_self, true_and, and_true, str_list, str_size, str_app, str_cut, str_get, s'.1]
     exact hM _ (.refl _)
    apply lex_to
    · rfl
    ·intro h' s' M hM
     simp only [pop, St.eval, constSlot, upd_at, Nat.reduceEqDiff, if_true, if_false, popSlice, boundOf, Option.map_none, Option.map_some, Tryd.underlying9, eq_self, true_and, and_true, str_list, str_size, str_app, str_cut, str_get, s'.1]
     refine ⟨by omega, by omega, by omega, ?_⟩
     exact hM _ (.refl _)
    apply lex_to
    · rfl
    ·intro h' s' M hM
     simp only [pop, St.eval, constSlot, upd_at, Nat.reduceEqDiff, if_true, if_false, eq_self, true_and, and_true, str_list, str_size, str_app, str_cut, str_get, s'.1]
     exact hM _ (.refl _)
    apply lex_to
    · rfl
    ·intro h' s' M hM
     simp only [pop, St.eval, constSlot, upd_at, Nat.reduceEqDiff, if_true, if_false, eq_self, true_and, and_true, str_list, str_size, str_app, str_cut, str_get, s'.1]
     exact hM _ (.refl _)
    apply lex_to
    · rfl
    ·intro h' s' M hM
     simp only [pop, St.eval, constSlot, upd_at, Nat.reduceEqDiff, if_true, if_false, popBin, binK, intK, strK, eqK, eq_self, true_and, and_true, str_list, str_size, str_app, str_cut, str_get, hw, s'.1]
     exact hM _ (.refl _)
    apply lex_to
    · rfl
    ·intro h' s' M hM
     simp only [pop, St.eval, constSlot, upd_at, Nat.reduceEqDiff, if_true, if_false, popSlice, boundOf, Option.map_none, Option.map_some, Tryd.underlying9, eq_self, true_and, and_true, str_list, str_size, str_app, str_cut, str_get, s'.1]
     refine ⟨by omega, by omega, by omega, ?_⟩
     exact hM _ (.refl _)
    apply lex_to
    · rfl
    ·intro h' s' M hM
     simp only [pop, St.eval, constSlot, upd_at, Nat.reduceEqDiff, if_true, if_false, eq_self, true_and, and_true, str_list, str_size, str_app, str_cut, str_get, s'.1]
     exact hM _ (.refl _)
    apply lex_to
    · rfl
    ·intro h' s' M hM
     simp only [pop, St.eval, constSlot, upd_at, Nat.reduceEqDiff, if_true, if_false, eq_self, true_and, and_true, str_list, str_size, str_app, str_cut, str_get, s'.1]
     exact hM _ (.refl _)
    apply lex_to
    · rfl
    ·intro h' s' M hM
     simp only [pop, St.eval, constSlot, upd_at, Nat.reduceEqDiff, if_true, if_false, eq_self, true_and, and_true, str_list, str_size, str_app, str_cut, str_get, s'.1]
     exact hM _ (.refl _)
    refine lex_done fun hq sq => ?_
    replace sq := Same.trans s2 sq
    refine pops_done (hR23 _ ?_)
    clear hR23 R23
    try simp only [thenK, scopeK]
    refine hN22 _ ?_
    clear hN22 N22
    refine pwp_ret ?_
    simp only [thenK, blockK, scopeK, bodyK]
    refine ⟨_, rfl, endFun sq ?_⟩
    try simp only [upd_at, Nat.reduceEqDiff, if_true, if_false]
    all_goals
     simp [aboveR, hp, hs, hk2, List.take_of_length_le]

theorem nm80 : (Tryd.f80.name == "runtime.NumGoroutine") = false := by kernel_rfl
theorem small_fun (W0 : World) (c : UInt8) :
  PFun Tryd.prog W0 80 [.one (.val (.int .u8 c.toNat))] (.sv (.one (.val (.int .u8 (lowC c).toNat)))) := by
 intro h
 refine pcalls1 (n := 13) Tryd.func80 rfl nm80 rfl fun hb => ?_
 refine pwp_then fun N1 hN1 => ?_
 refine pwp_reg fun R2 hR2 => ?_
 refine pops_to rfl fun M hM => ?_
 simp only [pop, St.eval, constSlot, upd_at, Nat.reduceEqDiff, if_true, if_false, eq_self, true_and, and_true, str_list, str_size, str_app, str_cut, str_get]
 refine hM _ _ ?_
 clear hM M
 refine pops_done (hR2 _ ?_)
 clear hR2 R2
 try simp only [thenK, scopeK]
 refine hN1 _ ?_
 clear hN1 N1
 refine pwp_then fun N3 hN3 => ?_
 refine pwp_then fun N4 hN4 => ?_
 refine pwp_reg fun R5 hR5 => ?_
 refine pops_to rfl fun M hM => ?_
 simp only [pop, St.eval, constSlot, upd_at, Nat.reduceEqDiff, if_true, if_false, eq_self, true_and, and_true, str_list, str_size, str_app, str_cut, str_get]
 refine hM _ _ ?_
 clear hM M
 refine pops_to rfl fun M hM => ?_
 simp only [pop, St.eval, constSlot, upd_at, Nat.reduceEqDiff, if_true, if_false, popBin, binK, intK, strK, eqK, eq_self, true_and, and_true, str_list, str_size, str_app, str_cut, str_get]
 refine hM _ _ ?_
 clear hM M
 refine pops_to rfl fun M hM => ?_
 simp only [pop, St.eval, constSlot, upd_at, Nat.reduceEqDiff, if_true, if_false, eq_self, true_and, and_true, str_list, str_size, str_app, str_cut, str_get]
 refine hM _ _ ?_
 clear hM M
 refine pops_split 5 (by simp only [upd_at, Nat.reduceEqDiff, if_true, if_false] <;> rfl) (fun g5_0 => ?_) (fun g5_0 => ?_)
 ·skip
  have h65 : 65 ≤ c.toNat := by have := of_decide_eq_true g5_0; omega
  refine pops_do rfl rfl (by simp only [upd_at, Nat.reduceEqDiff, if_true, if_false, g5_0]) fun M hM => ?_
  simp only [pop, St.eval, constSlot, upd_at, Nat.reduceEqDiff, if_true, if_false, eq_self, true_and, and_true, str_list, str_size, str_app, str_cut, str_get, g5_0]
  refine hM _ _ ?_
  clear hM M
  refine pops_do rfl rfl (by simp only [upd_at, Nat.reduceEqDiff, if_true, if_false, g5_0]) fun M hM => ?_
  simp only [pop, St.eval, constSlot, upd_at, Nat.reduceEqDiff, if_true, if_false, popBin, binK, intK, strK, eqK, eq_self, true_and, and_true, str_list, str_size, str_app, str_cut, str_get, g5_0]
  refine hM _ _ ?_
  clear hM M
  refine pops_to rfl fun M hM => ?_
  simp only [pop, St.eval, constSlot, upd_at, Nat.reduceEqDiff, if_true, if_false, popIf, true_implies, false_implies, Bool.true_eq_false, Bool.false_eq_true, reduceCtorEq, eq_self, true_and, and_true, str_list, str_size, str_app, str_cut, str_get, g5_0]
  refine hM _ _ ?_
  clear hM M
  refine pops_done (hR5 _ ?_)
  clear hR5 R5
  try simp only [thenK, scopeK]
  refine hN4 _ ?_
  clear hN4 N4
  refine pwp_cond (by simp only [St.eval, upd_at, Nat.reduceEqDiff, if_true, if_false, g5_0] <;> rfl) (fun c8 => ?_) (fun c8 => ?_)
  ·skip
   have hc : 65 ≤ c.toNat ∧ c.toNat ≤ 90 := by have := of_decide_eq_true c8; omega
   have hw1 : IntKind.u8.wrap ((c.toNat : Int) - 65) = (c.toNat : Int) - 65 := wrap_u8 (by omega) (by omega)
   have hw2 : IntKind.u8.wrap ((c.toNat : Int) - 65 + 97) = (c.toNat : Int) - 65 + 97 := wrap_u8 (by omega) (by omega)
   have hl2 := lowC_toNat c hc
   refine pwp_then fun N6 hN6 => ?_
   refine pwp_reg fun R7 hR7 => ?_
   refine pops_to rfl fun M hM => ?_
   simp only [pop, St.eval, constSlot, upd_at, Nat.reduceEqDiff, if_true, if_false, eq_self, true_and, and_true, str_list, str_size, str_app, str_cut, str_get, g5_0]
   refine hM _ _ ?_
   clear hM M
   refine pops_to rfl fun M hM => ?_
   simp only [pop, St.eval, constSlot, upd_at, Nat.reduceEqDiff, if_true, if_false, popBin, binK, intK, strK, eqK, eq_self, true_and, and_true, str_list, str_size, str_app, str_cut, str_get, g5_0, hw1]
   refine hM _ _ ?_
   clear hM M
   refine pops_to rfl fun M hM => ?_
   simp only [pop, St.eval, constSlot, upd_at, Nat.reduceEqDiff, if_true, if_false, popBin, binK, intK, strK, eqK, eq_self, true_and, and_true, str_list, str_size, str_app, str_cut, str_get, g5_0, hw2]
   refine hM _ _ ?_
   clear hM M
   refine pops_to rfl fun M hM => ?_
   simp only [pop, St.eval, constSlot, upd_at, Nat.reduceEqDiff, if_true, if_false, eq_self, true_and, and_true, str_list, str_size, str_app, str_cut, str_get, g5_0]
   refine hM _ _ ?_
   clear hM M
   refine pops_done (hR7 _ ?_)
   clear hR7 R7
   try simp only [thenK, scopeK]
   refine hN6 _ ?_
   clear hN6 N6
   refine pwp_ret ?_
   simp only [thenK, blockK, scopeK, bodyK]
   clear hN3 N3
   refine ⟨_, rfl, endFun (Same.refl _) ?_⟩
   try simp only [upd_at, Nat.reduceEqDiff, if_true, if_false, g5_0]
   all_goals
    congr 4
    omega
  ·skip
   have hlow : lowC c = c := by unfold lowC; rw [if_neg (by have := of_decide_eq_false c8; omega)]
   refine pwp_skip ?_
   try simp only [thenK, scopeK]
   refine hN3 _ ?_
   clear hN3 N3
   refine pwp_then fun N8 hN8 => ?_
   refine pwp_reg fun R9 hR9 => ?_
   refine pops_to rfl fun M hM => ?_
   simp only [pop, St.eval, constSlot, upd_at, Nat.reduceEqDiff, if_true, if_false, eq_self, true_and, and_true, str_list, str_size, str_app, str_cut, str_get, g5_0]
   refine hM _ _ ?_
   clear hM M
   refine pops_to rfl fun M hM => ?_
   simp only [pop, St.eval, constSlot, upd_at, Nat.reduceEqDiff, if_true, if_false, eq_self, true_and, and_true, str_list, str_size, str_app, str_cut, str_get, g5_0]
   refine hM _ _ ?_
   clear hM M
   refine pops_done (hR9 _ ?_)
   clear hR9 R9
   try simp only [thenK, scopeK]
   refine hN8 _ ?_
   clear hN8 N8
   refine pwp_ret ?_
   simp only [thenK, blockK, scopeK, bodyK]
   refine ⟨_, rfl, endFun (Same.refl _) ?_⟩
   try simp only [upd_at, Nat.reduceEqDiff, if_true, if_false, g5_0]
   all_goals
    rw [hlow]
 ·skip
  have hlow : lowC c = c := by unfold lowC; rw [if_neg (by have := of_decide_eq_false g5_0; omega)]
  refine pops_off (b := false) rfl rfl (by simp only [upd_at, Nat.reduceEqDiff, if_true, if_false, g5_0]) (by decide) ?_
  refine pops_off (b := false) rfl rfl (by simp only [upd_at, Nat.reduceEqDiff, if_true, if_false, g5_0]) (by decide) ?_
  refine pops_to rfl fun M hM => ?_
  simp only [pop, St.eval, constSlot, upd_at, Nat.reduceEqDiff, if_true, if_false, popIf, true_implies, false_implies, Bool.true_eq_false, Bool.false_eq_true, reduceCtorEq, eq_self, true_and, and_true, str_list, str_size, str_app, str_cut, str_get, g5_0]
  refine hM _ _ ?_
  clear hM M
  refine pops_done (hR5 _ ?_)
  clear hR5 R5
  try simp only [thenK, scopeK]
  refine hN4 _ ?_
  clear hN4 N4
  refine pwp_cond_false (by simp only [St.eval, upd_at, Nat.reduceEqDiff, if_true, if_false, g5_0] <;> rfl) ?_
  refine pwp_skip ?_
  try simp only [thenK, scopeK]
  refine hN3 _ ?_
  clear hN3 N3
  refine pwp_then fun N10 hN10 => ?_
  refine pwp_reg fun R11 hR11 => ?_
  refine pops_to rfl fun M hM => ?_
  simp only [pop, St.eval, constSlot, upd_at, Nat.reduceEqDiff, if_true, if_false, eq_self, true_and, and_true, str_list, str_size, str_app, str_cut, str_get, g5_0]
  refine hM _ _ ?_
  clear hM M
  refine pops_to rfl fun M hM => ?_
  simp only [pop, St.eval, constSlot, upd_at, Nat.reduceEqDiff, if_true, if_false, eq_self, true_and, and_true, str_list, str_size, str_app, str_cut, str_get, g5_0]
  refine hM _ _ ?_
  clear hM M
  refine pops_done (hR11 _ ?_)
  clear hR11 R11
  try simp only [thenK, scopeK]
  refine hN10 _ ?_
  clear hN10 N10
  refine pwp_ret ?_
  simp only [thenK, blockK, scopeK, bodyK]
  refine ⟨_, rfl, endFun (Same.refl _) ?_⟩
  try simp only [upd_at, Nat.reduceEqDiff, if_true, if_false, g5_0]
  all_goals
   rw [hlow]

theorem nm41 : (Tryd.f41.name == "runtime.NumGoroutine") = false := by kernel_rfl
theorem fold_fun (W0 : World) (s : List UInt8) (hs : s.length ≤ 9223372036854775807) :
  PFun Tryd.prog W0 41 [.one (pstr s)] (.sv (.one (pstr (s.map lowC)))) := by
 intro h
 refine pcalls1 (n := 23) Tryd.func41 rfl nm41 rfl fun hb => ?_
 refine pwp_then fun N1 hN1 => ?_
 refine pwp_reg fun R2 hR2 => ?_
 refine pops_to rfl fun M hM => ?_
 simp only [pop, St.eval, constSlot, upd_at, Nat.reduceEqDiff, if_true, if_false, eq_self, true_and, and_true, str_list, str_size, str_app, str_cut, str_get]
 refine hM _ _ ?_
 clear hM M
 refine pops_done (hR2 _ ?_)
 clear hR2 R2
 try simp only [thenK, scopeK]
 refine hN1 _ ?_
 clear hN1 N1
 refine pwp_then fun N3 hN3 => ?_
 refine pwp_reg fun R4 hR4 => ?_
 refine pops_to rfl fun M hM => ?_
 simp only [pop, St.eval, constSlot, upd_at, Nat.reduceEqDiff, if_true, if_false, eq_self, true_and, and_true, str_list, str_size, str_app, str_cut, str_get]
 refine hM _ _ ?_
 clear hM M
 refine pops_to rfl fun M hM => ?_
 simp only [pop, St.eval, constSlot, upd_at, Nat.reduceEqDiff, if_true, if_false, eq_self, true_and, and_true, str_list, str_size, str_app, str_cut, str_get]
 refine toBytes Tryd.underlying9 Tryd.underlying73 Tryd.underlying5 hs fun id hid => hM _ _ ?_
 have hb1 := blk_new h id (bytesBlk 5 s)
 have hk1 : Keeps h (Hp.new h id (bytesBlk 5 s)) := .new hb hid
 clear hM M
 refine pops_to rfl fun M hM => ?_
 simp only [pop, St.eval, constSlot, upd_at, Nat.reduceEqDiff, if_true, if_false, eq_self, true_and, and_true, str_list, str_size, str_app, str_cut, str_get]
 refine hM _ _ ?_
 clear hM M
 refine pops_done (hR4 _ ?_)
 clear hR4 R4
 try simp only [thenK, scopeK]
 refine hN3 _ ?_
 clear hN3 N3
 refine pwp_then fun N5 hN5 => ?_
 refine pwp_then fun N6 hN6 => ?_
 refine pwp_reg fun R7 hR7 => ?_
 refine pops_to rfl fun M hM => ?_
 simp only [pop, St.eval, constSlot, upd_at, Nat.reduceEqDiff, if_true, if_false, eq_self, true_and, and_true, str_list, str_size, str_app, str_cut, str_get]
 refine hM _ _ ?_
 clear hM M
 refine pops_to rfl fun M hM => ?_
 simp only [pop, St.eval, constSlot, upd_at, Nat.reduceEqDiff, if_true, if_false, popCall, List.toList_toArray, List.map_cons, List.map_nil, popBuiltin, popLen, lenOfSlot, List.length_map, Tryd.underlying73, eq_self, true_and, and_true, str_list, str_size, str_app, str_cut, str_get]
 refine hM _ _ ?_
 clear hM M
 refine pops_to rfl fun M hM => ?_
 simp only [pop, St.eval, constSlot, upd_at, Nat.reduceEqDiff, if_true, if_false, eq_self, true_and, and_true, str_list, str_size, str_app, str_cut, str_get]
 refine hM _ _ ?_
 clear hM M
 refine pops_done (hR7 _ ?_)
 clear hR7 R7
 try simp only [thenK, scopeK]
 refine hN6 _ ?_
 clear hN6 N6
 refine pwp_block ?_
 refine pwp_loop (fun k σ => ∃ (i : Nat), (k = s.length - i) ∧ (i ≤ s.length) ∧ (Keeps h σ.hp ∧ (σ.hp).blk id = some (bytesBlk 5 ((s.take i).map lowC ++ s.drop i))) ∧ (σ.env 8 = .sv (.one (.own id 0 0 s.length))) ∧ (σ.env 9 = .sv (.one (pint (s.length : Nat)))) ∧ (σ.env 10 = .sv (.one (pint (i : Nat)))) ∧ (σ.env 3 = .sv (.one (.own id 0 0 s.length)))) _ ⟨_, .refl _ _, 0, rfl, ?_⟩ ?_
 · exact ⟨Nat.zero_le _, ⟨hk1, hb1⟩, by simp only [upd_at, Nat.reduceEqDiff, if_true, if_false], by simp only [upd_at, Nat.reduceEqDiff, if_true, if_false], by simp only [upd_at, Nat.reduceEqDiff, if_true, if_false]; rfl, by simp only [upd_at, Nat.reduceEqDiff, if_true, if_false]⟩
 ·rintro k ⟨e, hp0⟩ ⟨i, hk0, hx0_0, sl0, e0_8, e0_9, e0_10, e0_3⟩
  simp only at sl0 e0_8 e0_9 e0_10 e0_3
  obtain ⟨hk2, hb2⟩ := sl0
  have hlen2 := low_len s i hx0_0
  refine pwp_then fun N8 hN8 => ?_
  refine pwp_reg fun R9 hR9 => ?_
  refine pops_to rfl fun M hM => ?_
  simp only [pop, St.eval, constSlot, upd_at, Nat.reduceEqDiff, if_true, if_false, popBin, binK, intK, strK, eqK, eq_self, true_and, and_true, str_list, str_size, str_app, str_cut, str_get, e0_8, e0_9, e0_10, e0_3]
  refine hM _ _ ?_
  clear hM M
  refine pops_done (hR9 _ ?_)
  clear hR9 R9
  try simp only [thenK, scopeK]
  refine hN8 _ ?_
  clear hN8 N8
  refine pwp_then fun N10 hN10 => ?_
  refine pwp_cond (by simp only [St.eval, upd_at, Nat.reduceEqDiff, if_true, if_false, e0_8, e0_9, e0_10, e0_3] <;> rfl) (fun c11 => ?_) (fun c11 => ?_)
  ·skip
   have hi : i < s.length := by have := of_decide_eq_true c11; omega
   obtain ⟨c, hx⟩ : ∃ x, s[i]? = some x := ⟨_, List.getElem?_eq_getElem hi⟩
   refine pwp_skip ?_
   try simp only [thenK, scopeK]
   refine hN10 _ ?_
   clear hN10 N10
   refine pwp_then fun N11 hN11 => ?_
   refine pwp_block ?_
   refine pwp_then fun N12 hN12 => ?_
   refine pwp_reg fun R13 hR13 => ?_
   refine pops_to rfl fun M hM => ?_
   simp only [pop, St.eval, constSlot, upd_at, Nat.reduceEqDiff, if_true, if_false, eq_self, true_and, and_true, str_list, str_size, str_app, str_cut, str_get, e0_8, e0_9, e0_10, e0_3]
   refine hM _ _ ?_
   clear hM M
   refine pops_to rfl fun M hM => ?_
   simp only [pop, St.eval, constSlot, upd_at, Nat.reduceEqDiff, if_true, if_false, eq_self, true_and, and_true, str_list, str_size, str_app, str_cut, str_get, e0_8, e0_9, e0_10, e0_3]
   rw [show (PV.own id 0 0 s.length) = .own id 0 0 ((s.take i).map lowC ++ s.drop i).length by rw [hlen2]]
   refine ixByte (l := (s.take i).map lowC ++ s.drop i) (i := i) Tryd.underlying73 sz5 hb2 rfl (by omega) (hM _ _ ?_)
   clear hM M
   refine pops_to rfl fun M hM => ?_
   simp only [pop, St.eval, constSlot, upd_at, Nat.reduceEqDiff, if_true, if_false, eq_self, true_and, and_true, str_list, str_size, str_app, str_cut, str_get, e0_8, e0_9, e0_10, e0_3]
   refine loadByte Tryd.underlying5 hb2 (low_get hx) (hM _ _ ?_)
   clear hM M
   refine pops_to rfl fun M hM => ?_
   simp only [pop, St.eval, constSlot, upd_at, Nat.reduceEqDiff, if_true, if_false, eq_self, true_and, and_true, str_list, str_size, str_app, str_cut, str_get, e0_8, e0_9, e0_10, e0_3]
   refine hM _ _ ?_
   clear hM M
   refine pops_to rfl fun M hM => ?_
   simp only [pop, St.eval, constSlot, upd_at, Nat.reduceEqDiff, if_true, if_false, eq_self, true_and, and_true, str_list, str_size, str_app, str_cut, str_get, e0_8, e0_9, e0_10, e0_3]
   refine hM _ _ ?_
   clear hM M
   refine pops_done (hR13 _ ?_)
   clear hR13 R13
   try simp only [thenK, scopeK]
   refine hN12 _ ?_
   clear hN12 N12
   refine pwp_reg fun R14 hR14 => ?_
   refine pops_to rfl fun M hM => ?_
   simp only [pop, St.eval, constSlot, upd_at, Nat.reduceEqDiff, if_true, if_false, eq_self, true_and, and_true, str_list, str_size, str_app, str_cut, str_get, e0_8, e0_9, e0_10, e0_3]
   refine hM _ _ ?_
   clear hM M
   refine pops_to rfl fun M hM => ?_
   simp only [pop, St.eval, constSlot, upd_at, Nat.reduceEqDiff, if_true, if_false, eq_self, true_and, and_true, str_list, str_size, str_app, str_cut, str_get, e0_8, e0_9, e0_10, e0_3]
   refine hM _ _ ?_
   clear hM M
   refine pops_to rfl fun M hM => ?_
   simp only [pop, St.eval, constSlot, upd_at, Nat.reduceEqDiff, if_true, if_false, eq_self, true_and, and_true, str_list, str_size, str_app, str_cut, str_get, e0_8, e0_9, e0_10, e0_3]
   refine hM _ _ ?_
   clear hM M
   refine pops_to rfl fun M hM => ?_
   simp only [pop, St.eval, constSlot, upd_at, Nat.reduceEqDiff, if_true, if_false, popCall, List.toList_toArray, List.map_cons, List.map_nil, svs, List.mapM_cons, List.mapM_nil, Option.bind_eq_bind, Option.bind_some, Option.pure_def, List.append_nil, List.cons_append, List.nil_append, eq_self, true_and, and_true, str_list, str_size, str_app, str_cut, str_get, e0_8, e0_9, e0_10, e0_3]
   refine PFun.use (small_fun W0 c) fun h3 s3 => hM _ _ ?_
   replace hk2 := hk2.trans s3.keeps
   replace hb2 : h3.blk id = some (bytesBlk 5 ((s.take i).map lowC ++ s.drop i)) := by rw [s3.1]; exact hb2
   clear hM M
   refine pops_to rfl fun M hM => ?_
   simp only [pop, St.eval, constSlot, upd_at, Nat.reduceEqDiff, if_true, if_false, eq_self, true_and, and_true, str_list, str_size, str_app, str_cut, str_get, e0_8, e0_9, e0_10, e0_3]
   rw [show (PV.own id 0 0 s.length) = .own id 0 0 ((s.take i).map lowC ++ s.drop i).length by rw [hlen2]]
   refine ixByte (l := (s.take i).map lowC ++ s.drop i) (i := i) Tryd.underlying73 sz5 hb2 rfl (by omega) (hM _ _ ?_)
   clear hM M
   refine pops_no fun M hM => ?_
   simp only [pop, St.eval, constSlot, upd_at, Nat.reduceEqDiff, if_true, if_false, eq_self, true_and, and_true, str_list, str_size, str_app, str_cut, str_get, e0_8, e0_9, e0_10, e0_3]
   refine storeByte (l := (s.take i).map lowC ++ s.drop i) (c := lowC c) sz5 hb2 (by omega) (hM _ _ ?_)
   rw [low_step hx]
   replace hk2 := hk2.set (id := id) (b := bytesBlk 5 ((s.take (i + 1)).map lowC ++ s.drop (i + 1))) hb hid
   replace hb2 := blk_set h3 id (bytesBlk 5 ((s.take (i + 1)).map lowC ++ s.drop (i + 1)))
   clear hM M
   refine pops_done (hR14 _ ?_)
   clear hR14 R14
   try simp only [blockK, thenK, scopeK]
   try simp only [thenK, scopeK]
   refine hN11 _ ?_
   clear hN11 N11
   refine pwp_reg fun R15 hR15 => ?_
   refine pops_to rfl fun M hM => ?_
   simp only [pop, St.eval, constSlot, upd_at, Nat.reduceEqDiff, if_true, if_false, popBin, binK, intK, strK, eqK, eq_self, true_and, and_true, str_list, str_size, str_app, str_cut, str_get, e0_8, e0_9, e0_10, e0_3]
   refine hM _ _ ?_
   clear hM M
   refine pops_to rfl fun M hM => ?_
   simp only [pop, St.eval, constSlot, upd_at, Nat.reduceEqDiff, if_true, if_false, eq_self, true_and, and_true, str_list, str_size, str_app, str_cut, str_get, e0_8, e0_9, e0_10, e0_3]
   refine hM _ _ ?_
   clear hM M
   refine pops_done (hR15 _ ?_)
   clear hR15 R15
   try simp only [thenK, scopeK]
   exact ⟨_, by omega, _, .refl _ _, i + 1, rfl, by omega, ⟨hk2, hb2⟩, by simp only [upd_at, Nat.reduceEqDiff, if_true, if_false, e0_8, e0_9, e0_10, e0_3], by simp only [upd_at, Nat.reduceEqDiff, if_true, if_false, e0_8, e0_9, e0_10, e0_3], by simp only [upd_at, Nat.reduceEqDiff, if_true, if_false, e0_10]; rw [wrap_succ (by omega)], by simp only [upd_at, Nat.reduceEqDiff, if_true, if_false, e0_8, e0_9, e0_10, e0_3]⟩
  ·skip
   have hi := of_decide_eq_false c11
   have hfin : (s.take i).map lowC ++ s.drop i = s.map lowC := by rw [List.take_of_length_le (by omega), List.drop_eq_nil_of_le (by omega), List.append_nil]
   rw [hfin] at hb2
   refine pwp_exit ?_
   try simp only [thenK, blockK, scopeK, if_true, Nat.reduceEqDiff, if_false]
   clear hN10 N10
   try simp only [blockK, scopeK, if_true, Nat.reduceEqDiff, if_false, thenK]
   try simp only [thenK, scopeK]
   refine hN5 _ ?_
   clear hN5 N5
   refine pwp_then fun N16 hN16 => ?_
   refine pwp_reg fun R17 hR17 => ?_
   refine pops_to rfl fun M hM => ?_
   simp only [pop, St.eval, constSlot, upd_at, Nat.reduceEqDiff, if_true, if_false, eq_self, true_and, and_true, str_list, str_size, str_app, str_cut, str_get, e0_8, e0_9, e0_10, e0_3]
   refine hM _ _ ?_
   clear hM M
   refine pops_to rfl fun M hM => ?_
   simp only [pop, St.eval, constSlot, upd_at, Nat.reduceEqDiff, if_true, if_false, eq_self, true_and, and_true, str_list, str_size, str_app, str_cut, str_get, e0_8, e0_9, e0_10, e0_3]
   rw [show (PV.own id 0 0 s.length) = .own id 0 0 (s.map lowC).length by rw [List.length_map]]
   refine fromBytes Tryd.underlying9 Tryd.underlying73 Tryd.underlying5 hb2 (hM _ _ ?_)
   clear hM M
   refine pops_to rfl fun M hM => ?_
   simp only [pop, St.eval, constSlot, upd_at, Nat.reduceEqDiff, if_true, if_false, eq_self, true_and, and_true, str_list, str_size, str_app, str_cut, str_get, e0_8, e0_9, e0_10, e0_3]
   refine hM _ _ ?_
   clear hM M
   refine pops_done (hR17 _ ?_)
   clear hR17 R17
   try simp only [thenK, scopeK]
   refine hN16 _ ?_
   clear hN16 N16
   refine pwp_ret ?_
   simp only [thenK, blockK, scopeK, bodyK]
   exact ⟨_, rfl, endKeeps1 hk2 rfl⟩

theorem nm42 : (Tryd.f42.name == "runtime.NumGoroutine") = false := by kernel_rfl
theorem lower_fun (W0 : World) (s : List UInt8) (hs : s.length ≤ 9223372036854775807) :
  PFun Tryd.prog W0 42 [.one (pstr s)] (.sv (.one (pstr (s.map lowC)))) := by
 intro h
 refine pcalls1 (n := 29) Tryd.func42 rfl nm42 rfl fun hb => ?_
 refine pwp_then fun N1 hN1 => ?_
 refine pwp_reg fun R2 hR2 => ?_
 refine pops_to rfl fun M hM => ?_
 simp only [pop, St.eval, constSlot, upd_at, Nat.reduceEqDiff, if_true, if_false, eq_self, true_and, and_true, str_list, str_size, str_app, str_cut, str_get]
 refine hM _ _ ?_
 clear hM M
 refine pops_done (hR2 _ ?_)
 clear hR2 R2
 try simp only [thenK, scopeK]
 refine hN1 _ ?_
 clear hN1 N1
 refine pwp_then fun N3 hN3 => ?_
 refine pwp_reg fun R4 hR4 => ?_
 refine pops_to rfl fun M hM => ?_
 simp only [pop, St.eval, constSlot, upd_at, Nat.reduceEqDiff, if_true, if_false, eq_self, true_and, and_true, str_list, str_size, str_app, str_cut, str_get]
 refine hM _ _ ?_
 clear hM M
 refine pops_to rfl fun M hM => ?_
 simp only [pop, St.eval, constSlot, upd_at, Nat.reduceEqDiff, if_true, if_false, eq_self, true_and, and_true, str_list, str_size, str_app, str_cut, str_get]
 refine toBytes Tryd.underlying9 Tryd.underlying73 Tryd.underlying5 hs fun id hid => hM _ _ ?_
 have hb1 := blk_new h id (bytesBlk 5 s)
 have hk1 : Keeps h (Hp.new h id (bytesBlk 5 s)) := .new hb hid
 clear hM M
 refine pops_to rfl fun M hM => ?_
 simp only [pop, St.eval, constSlot, upd_at, Nat.reduceEqDiff, if_true, if_false, eq_self, true_and, and_true, str_list, str_size, str_app, str_cut, str_get]
 refine hM _ _ ?_
 clear hM M
 refine pops_done (hR4 _ ?_)
 clear hR4 R4
 try simp only [thenK, scopeK]
 refine hN3 _ ?_
 clear hN3 N3
 refine pwp_then fun N5 hN5 => ?_
 refine pwp_then fun N6 hN6 => ?_
 refine pwp_reg fun R7 hR7 => ?_
 refine pops_to rfl fun M hM => ?_
 simp only [pop, St.eval, constSlot, upd_at, Nat.reduceEqDiff, if_true, if_false, eq_self, true_and, and_true, str_list, str_size, str_app, str_cut, str_get]
 refine hM _ _ ?_
 clear hM M
 refine pops_to rfl fun M hM => ?_
 simp only [pop, St.eval, constSlot, upd_at, Nat.reduceEqDiff, if_true, if_false, popCall, List.toList_toArray, List.map_cons, List.map_nil, popBuiltin, popLen, lenOfSlot, List.length_map, Tryd.underlying73, eq_self, true_and, and_true, str_list, str_size, str_app, str_cut, str_get]
 refine hM _ _ ?_
 clear hM M
 refine pops_to rfl fun M hM => ?_
 simp only [pop, St.eval, constSlot, upd_at, Nat.reduceEqDiff, if_true, if_false, eq_self, true_and, and_true, str_list, str_size, str_app, str_cut, str_get]
 refine hM _ _ ?_
 clear hM M
 refine pops_done (hR7 _ ?_)
 clear hR7 R7
 try simp only [thenK, scopeK]
 refine hN6 _ ?_
 clear hN6 N6
 refine pwp_block ?_
 refine pwp_loop (fun k σ => ∃ (i : Nat), (k = s.length - i) ∧ (i ≤ s.length) ∧ (Keeps h σ.hp ∧ (σ.hp).blk id = some (bytesBlk 5 ((s.take i).map lowC ++ s.drop i))) ∧ (σ.env 8 = .sv (.one (.own id 0 0 s.length))) ∧ (σ.env 9 = .sv (.one (pint (s.length : Nat)))) ∧ (σ.env 10 = .sv (.one (pint (i : Nat)))) ∧ (σ.env 3 = .sv (.one (.own id 0 0 s.length)))) _ ⟨_, .refl _ _, 0, rfl, ?_⟩ ?_
 · exact ⟨Nat.zero_le _, ⟨hk1, hb1⟩, by simp only [upd_at, Nat.reduceEqDiff, if_true, if_false], by simp only [upd_at, Nat.reduceEqDiff, if_true, if_false], by simp only [upd_at, Nat.reduceEqDiff, if_true, if_false]; rfl, by simp only [upd_at, Nat.reduceEqDiff, if_true, if_false]⟩
 ·rintro k ⟨e, hp0⟩ ⟨i, hk0, hx0_0, sl0, e0_8, e0_9, e0_10, e0_3⟩
  simp only at sl0 e0_8 e0_9 e0_10 e0_3
  obtain ⟨hk2, hb2⟩ := sl0
  have hlen2 := low_len s i hx0_0
  refine pwp_then fun N8 hN8 => ?_
  refine pwp_reg fun R9 hR9 => ?_
  refine pops_to rfl fun M hM => ?_
  simp only [pop, St.eval, constSlot, upd_at, Nat.reduceEqDiff, if_true, if_false, popBin, binK, intK, strK, eqK, eq_self, true_and, and_true, str_list, str_size, str_app, str_cut, str_get, e0_8, e0_9, e0_10, e0_3]
  refine hM _ _ ?_
  clear hM M
  refine pops_done (hR9 _ ?_)
  clear hR9 R9
  try simp only [thenK, scopeK]
  refine hN8 _ ?_
  clear hN8 N8
  refine pwp_then fun N10 hN10 => ?_
  refine pwp_cond (by simp only [St.eval, upd_at, Nat.reduceEqDiff, if_true, if_false, e0_8, e0_9, e0_10, e0_3] <;> rfl) (fun c11 => ?_) (fun c11 => ?_)
  ·skip
   have hi : i < s.length := by have := of_decide_eq_true c11; omega
   obtain ⟨c, hx⟩ : ∃ x, s[i]? = some x := ⟨_, List.getElem?_eq_getElem hi⟩
   refine pwp_skip ?_
   try simp only [thenK, scopeK]
   refine hN10 _ ?_
   clear hN10 N10
   refine pwp_then fun N11 hN11 => ?_
   refine pwp_block ?_
   refine pwp_then fun N12 hN12 => ?_
   refine pwp_reg fun R13 hR13 => ?_
   refine pops_to rfl fun M hM => ?_
   simp only [pop, St.eval, constSlot, upd_at, Nat.reduceEqDiff, if_true, if_false, eq_self, true_and, and_true, str_list, str_size, str_app, str_cut, str_get, e0_8, e0_9, e0_10, e0_3]
   refine hM _ _ ?_
   clear hM M
   refine pops_to rfl fun M hM => ?_
   simp only [pop, St.eval, constSlot, upd_at, Nat.reduceEqDiff, if_true, if_false, eq_self, true_and, and_true, str_list, str_size, str_app, str_cut, str_get, e0_8, e0_9, e0_10, e0_3]
   rw [show (PV.own id 0 0 s.length) = .own id 0 0 ((s.take i).map lowC ++ s.drop i).length by rw [hlen2]]
   refine ixByte (l := (s.take i).map lowC ++ s.drop i) (i := i) Tryd.underlying73 sz5 hb2 rfl (by omega) (hM _ _ ?_)
   clear hM M
   refine pops_to rfl fun M hM => ?_
   simp only [pop, St.eval, constSlot, upd_at, Nat.reduceEqDiff, if_true, if_false, eq_self, true_and, and_true, str_list, str_size, str_app, str_cut, str_get, e0_8, e0_9, e0_10, e0_3]
   refine loadByte Tryd.underlying5 hb2 (low_get hx) (hM _ _ ?_)
   clear hM M
   refine pops_to rfl fun M hM => ?_
   simp only [pop, St.eval, constSlot, upd_at, Nat.reduceEqDiff, if_true, if_false, eq_self, true_and, and_true, str_list, str_size, str_app, str_cut, str_get, e0_8, e0_9, e0_10, e0_3]
   refine hM _ _ ?_
   clear hM M
   refine pops_to rfl fun M hM => ?_
   simp only [pop, St.eval, constSlot, upd_at, Nat.reduceEqDiff, if_true, if_false, eq_self, true_and, and_true, str_list, str_size, str_app, str_cut, str_get, e0_8, e0_9, e0_10, e0_3]
   refine hM _ _ ?_
   clear hM M
   refine pops_done (hR13 _ ?_)
   clear hR13 R13
   try simp only [thenK, scopeK]
   refine hN12 _ ?_
   clear hN12 N12
   refine pwp_then fun N14 hN14 => ?_
   refine pwp_reg fun R15 hR15 => ?_
   refine pops_to rfl fun M hM => ?_
   simp only [pop, St.eval, constSlot, upd_at, Nat.reduceEqDiff, if_true, if_false, eq_self, true_and, and_true, str_list, str_size, str_app, str_cut, str_get, e0_8, e0_9, e0_10, e0_3]
   refine hM _ _ ?_
   clear hM M
   refine pops_to rfl fun M hM => ?_
   simp only [pop, St.eval, constSlot, upd_at, Nat.reduceEqDiff, if_true, if_false, popBin, binK, intK, strK, eqK, eq_self, true_and, and_true, str_list, str_size, str_app, str_cut, str_get, e0_8, e0_9, e0_10, e0_3]
   refine hM _ _ ?_
   clear hM M
   refine pops_to rfl fun M hM => ?_
   simp only [pop, St.eval, constSlot, upd_at, Nat.reduceEqDiff, if_true, if_false, eq_self, true_and, and_true, str_list, str_size, str_app, str_cut, str_get, e0_8, e0_9, e0_10, e0_3]
   refine hM _ _ ?_
   clear hM M
   refine pops_split 17 (by simp only [upd_at, Nat.reduceEqDiff, if_true, if_false, e0_8, e0_9, e0_10, e0_3] <;> rfl) (fun g17_0 => ?_) (fun g17_0 => ?_)
   ·skip
    have h65 : 65 ≤ c.toNat := by have := of_decide_eq_true g17_0; omega
    refine pops_do rfl rfl (by simp only [upd_at, Nat.reduceEqDiff, if_true, if_false, e0_8, e0_9, e0_10, e0_3, g17_0]) fun M hM => ?_
    simp only [pop, St.eval, constSlot, upd_at, Nat.reduceEqDiff, if_true, if_false, eq_self, true_and, and_true, str_list, str_size, str_app, str_cut, str_get, e0_8, e0_9, e0_10, e0_3, g17_0]
    refine hM _ _ ?_
    clear hM M
    refine pops_do rfl rfl (by simp only [upd_at, Nat.reduceEqDiff, if_true, if_false, e0_8, e0_9, e0_10, e0_3, g17_0]) fun M hM => ?_
    simp only [pop, St.eval, constSlot, upd_at, Nat.reduceEqDiff, if_true, if_false, popBin, binK, intK, strK, eqK, eq_self, true_and, and_true, str_list, str_size, str_app, str_cut, str_get, e0_8, e0_9, e0_10, e0_3, g17_0]
    refine hM _ _ ?_
    clear hM M
    refine pops_to rfl fun M hM => ?_
    simp only [pop, St.eval, constSlot, upd_at, Nat.reduceEqDiff, if_true, if_false, popIf, true_implies, false_implies, Bool.true_eq_false, Bool.false_eq_true, reduceCtorEq, eq_self, true_and, and_true, str_list, str_size, str_app, str_cut, str_get, e0_8, e0_9, e0_10, e0_3, g17_0]
    refine hM _ _ ?_
    clear hM M
    refine pops_done (hR15 _ ?_)
    clear hR15 R15
    try simp only [thenK, scopeK]
    refine hN14 _ ?_
    clear hN14 N14
    refine pwp_cond (by simp only [St.eval, upd_at, Nat.reduceEqDiff, if_true, if_false, e0_8, e0_9, e0_10, e0_3, g17_0] <;> rfl) (fun c20 => ?_) (fun c20 => ?_)
    ·skip
     have hc : 65 ≤ c.toNat ∧ c.toNat ≤ 90 := by have := of_decide_eq_true c20; omega
     have hl2 := lowC_toNat c hc
     have hw2 : IntKind.u8.wrap ((c.toNat : Int) + 32) = ((lowC c).toNat : Int) := by rw [hl2]; exact wrap_u8 (by omega) (by omega)
     refine pwp_reg fun R16 hR16 => ?_
     refine pops_to rfl fun M hM => ?_
     simp only [pop, St.eval, constSlot, upd_at, Nat.reduceEqDiff, if_true, if_false, eq_self, true_and, and_true, str_list, str_size, str_app, str_cut, str_get, e0_8, e0_9, e0_10, e0_3, g17_0]
     refine hM _ _ ?_
     clear hM M
     refine pops_to rfl fun M hM => ?_
     simp only [pop, St.eval, constSlot, upd_at, Nat.reduceEqDiff, if_true, if_false, eq_self, true_and, and_true, str_list, str_size, str_app, str_cut, str_get, e0_8, e0_9, e0_10, e0_3, g17_0]
     refine hM _ _ ?_
     clear hM M
     refine pops_to rfl fun M hM => ?_
     simp only [pop, St.eval, constSlot, upd_at, Nat.reduceEqDiff, if_true, if_false, eq_self, true_and, and_true, str_list, str_size, str_app, str_cut, str_get, e0_8, e0_9, e0_10, e0_3, g17_0]
     refine hM _ _ ?_
     clear hM M
     refine pops_to rfl fun M hM => ?_
     simp only [pop, St.eval, constSlot, upd_at, Nat.reduceEqDiff, if_true, if_false, popBin, binK, intK, strK, eqK, eq_self, true_and, and_true, str_list, str_size, str_app, str_cut, str_get, e0_8, e0_9, e0_10, e0_3, g17_0, hw2]
     refine hM _ _ ?_
     clear hM M
     refine pops_to rfl fun M hM => ?_
     simp only [pop, St.eval, constSlot, upd_at, Nat.reduceEqDiff, if_true, if_false, eq_self, true_and, and_true, str_list, str_size, str_app, str_cut, str_get, e0_8, e0_9, e0_10, e0_3, g17_0]
     rw [show (PV.own id 0 0 s.length) = .own id 0 0 ((s.take i).map lowC ++ s.drop i).length by rw [hlen2]]
     refine ixByte (l := (s.take i).map lowC ++ s.drop i) (i := i) Tryd.underlying73 sz5 hb2 rfl (by omega) (hM _ _ ?_)
     clear hM M
     refine pops_no fun M hM => ?_
     simp only [pop, St.eval, constSlot, upd_at, Nat.reduceEqDiff, if_true, if_false, eq_self, true_and, and_true, str_list, str_size, str_app, str_cut, str_get, e0_8, e0_9, e0_10, e0_3, g17_0]
     refine storeByte (l := (s.take i).map lowC ++ s.drop i) (c := lowC c) sz5 hb2 (by omega) (hM _ _ ?_)
     rw [low_step hx]
     replace hk2 := hk2.set (id := id) (b := bytesBlk 5 ((s.take (i + 1)).map lowC ++ s.drop (i + 1))) hb hid
     replace hb2 := blk_set hp0 id (bytesBlk 5 ((s.take (i + 1)).map lowC ++ s.drop (i + 1)))
     clear hM M
     refine pops_done (hR16 _ ?_)
     clear hR16 R16
     try simp only [blockK, thenK, scopeK]
     try simp only [thenK, scopeK]
     refine hN11 _ ?_
     clear hN11 N11
     refine pwp_reg fun R17 hR17 => ?_
     refine pops_to rfl fun M hM => ?_
     simp only [pop, St.eval, constSlot, upd_at, Nat.reduceEqDiff, if_true, if_false, popBin, binK, intK, strK, eqK, eq_self, true_and, and_true, str_list, str_size, str_app, str_cut, str_get, e0_8, e0_9, e0_10, e0_3, g17_0]
     refine hM _ _ ?_
     clear hM M
     refine pops_to rfl fun M hM => ?_
     simp only [pop, St.eval, constSlot, upd_at, Nat.reduceEqDiff, if_true, if_false, eq_self, true_and, and_true, str_list, str_size, str_app, str_cut, str_get, e0_8, e0_9, e0_10, e0_3, g17_0]
     refine hM _ _ ?_
     clear hM M
     refine pops_done (hR17 _ ?_)
     clear hR17 R17
     try simp only [thenK, scopeK]
     exact ⟨_, by omega, _, .refl _ _, i + 1, rfl, by omega, ⟨hk2, hb2⟩, by simp only [upd_at, Nat.reduceEqDiff, if_true, if_false, e0_8, e0_9, e0_10, e0_3, g17_0], by simp only [upd_at, Nat.reduceEqDiff, if_true, if_false, e0_8, e0_9, e0_10, e0_3, g17_0], by simp only [upd_at, Nat.reduceEqDiff, if_true, if_false, e0_10]; rw [wrap_succ (by omega)], by simp only [upd_at, Nat.reduceEqDiff, if_true, if_false, e0_8, e0_9, e0_10, e0_3, g17_0]⟩
    ·skip
     have hlow : lowC c = c := by unfold lowC; rw [if_neg (by have := of_decide_eq_false c20; omega)]
     rw [low_same hx hlow] at hb2
     refine pwp_skip ?_
     try simp only [blockK, thenK, scopeK]
     try simp only [thenK, scopeK]
     refine hN11 _ ?_
     clear hN11 N11
     refine pwp_reg fun R18 hR18 => ?_
     refine pops_to rfl fun M hM => ?_
     simp only [pop, St.eval, constSlot, upd_at, Nat.reduceEqDiff, if_true, if_false, popBin, binK, intK, strK, eqK, eq_self, true_and, and_true, str_list, str_size, str_app, str_cut, str_get, e0_8, e0_9, e0_10, e0_3, g17_0]
     refine hM _ _ ?_
     clear hM M
     refine pops_to rfl fun M hM => ?_
     simp only [pop, St.eval, constSlot, upd_at, Nat.reduceEqDiff, if_true, if_false, eq_self, true_and, and_true, str_list, str_size, str_app, str_cut, str_get, e0_8, e0_9, e0_10, e0_3, g17_0]
     refine hM _ _ ?_
     clear hM M
     refine pops_done (hR18 _ ?_)
     clear hR18 R18
     try simp only [thenK, scopeK]
     exact ⟨_, by omega, _, .refl _ _, i + 1, rfl, by omega, ⟨hk2, hb2⟩, by simp only [upd_at, Nat.reduceEqDiff, if_true, if_false, e0_8, e0_9, e0_10, e0_3, g17_0], by simp only [upd_at, Nat.reduceEqDiff, if_true, if_false, e0_8, e0_9, e0_10, e0_3, g17_0], by simp only [upd_at, Nat.reduceEqDiff, if_true, if_false, e0_10]; rw [wrap_succ (by omega)], by simp only [upd_at, Nat.reduceEqDiff, if_true, if_false, e0_8, e0_9, e0_10, e0_3, g17_0]⟩
   ·skip
    have hlow : lowC c = c := by unfold lowC; rw [if_neg (by have := of_decide_eq_false g17_0; omega)]
    rw [low_same hx hlow] at hb2
    refine pops_off (b := false) rfl rfl (by simp only [upd_at, Nat.reduceEqDiff, if_true, if_false, e0_8, e0_9, e0_10, e0_3, g17_0]) (by decide) ?_
    refine pops_off (b := false) rfl rfl (by simp only [upd_at, Nat.reduceEqDiff, if_true, if_false, e0_8, e0_9, e0_10, e0_3, g17_0]) (by decide) ?_
    refine pops_to rfl fun M hM => ?_
    simp only [pop, St.eval, constSlot, upd_at, Nat.reduceEqDiff, if_true, if_false, popIf, true_implies, false_implies, Bool.true_eq_false, Bool.false_eq_true, reduceCtorEq, eq_self, true_and, and_true, str_list, str_size, str_app, str_cut, str_get, e0_8, e0_9, e0_10, e0_3, g17_0]
    refine hM _ _ ?_
    clear hM M
    refine pops_done (hR15 _ ?_)
    clear hR15 R15
    try simp only [thenK, scopeK]
    refine hN14 _ ?_
    clear hN14 N14
    refine pwp_cond_false (by simp only [St.eval, upd_at, Nat.reduceEqDiff, if_true, if_false, e0_8, e0_9, e0_10, e0_3, g17_0] <;> rfl) ?_
    refine pwp_skip ?_
    try simp only [blockK, thenK, scopeK]
    try simp only [thenK, scopeK]
    refine hN11 _ ?_
    clear hN11 N11
    refine pwp_reg fun R19 hR19 => ?_
    refine pops_to rfl fun M hM => ?_
    simp only [pop, St.eval, constSlot, upd_at, Nat.reduceEqDiff, if_true, if_false, popBin, binK, intK, strK, eqK, eq_self, true_and, and_true, str_list, str_size, str_app, str_cut, str_get, e0_8, e0_9, e0_10, e0_3, g17_0]
    refine hM _ _ ?_
    clear hM M
    refine pops_to rfl fun M hM => ?_
    simp only [pop, St.eval, constSlot, upd_at, Nat.reduceEqDiff, if_true, if_false, eq_self, true_and, and_true, str_list, str_size, str_app, str_cut, str_get, e0_8, e0_9, e0_10, e0_3, g17_0]
    refine hM _ _ ?_
    clear hM M
    refine pops_done (hR19 _ ?_)
    clear hR19 R19
    try simp only [thenK, scopeK]
    exact ⟨_, by omega, _, .refl _ _, i + 1, rfl, by omega, ⟨hk2, hb2⟩, by simp only [upd_at, Nat.reduceEqDiff, if_true, if_false, e0_8, e0_9, e0_10, e0_3, g17_0], by simp only [upd_at, Nat.reduceEqDiff, if_true, if_false, e0_8, e0_9, e0_10, e0_3, g17_0], by simp only [upd_at, Nat.reduceEqDiff, if_true, if_false, e0_10]; rw [wrap_succ (by omega)], by simp only [upd_at, Nat.reduceEqDiff, if_true, if_false, e0_8, e0_9, e0_10, e0_3, g17_0]⟩
  ·skip
   have hi := of_decide_eq_false c11
   have hfin : (s.take i).map lowC ++ s.drop i = s.map lowC := by rw [List.take_of_length_le (by omega), List.drop_eq_nil_of_le (by omega), List.append_nil]
   rw [hfin] at hb2
   refine pwp_exit ?_
   try simp only [thenK, blockK, scopeK, if_true, Nat.reduceEqDiff, if_false]
   clear hN10 N10
   try simp only [blockK, scopeK, if_true, Nat.reduceEqDiff, if_false, thenK]
   try simp only [thenK, scopeK]
   refine hN5 _ ?_
   clear hN5 N5
   refine pwp_then fun N20 hN20 => ?_
   refine pwp_reg fun R21 hR21 => ?_
   refine pops_to rfl fun M hM => ?_
   simp only [pop, St.eval, constSlot, upd_at, Nat.reduceEqDiff, if_true, if_false, eq_self, true_and, and_true, str_list, str_size, str_app, str_cut, str_get, e0_8, e0_9, e0_10, e0_3]
   refine hM _ _ ?_
   clear hM M
   refine pops_to rfl fun M hM => ?_
   simp only [pop, St.eval, constSlot, upd_at, Nat.reduceEqDiff, if_true, if_false, eq_self, true_and, and_true, str_list, str_size, str_app, str_cut, str_get, e0_8, e0_9, e0_10, e0_3]
   rw [show (PV.own id 0 0 s.length) = .own id 0 0 (s.map lowC).length by rw [List.length_map]]
   refine fromBytes Tryd.underlying9 Tryd.underlying73 Tryd.underlying5 hb2 (hM _ _ ?_)
   clear hM M
   refine pops_to rfl fun M hM => ?_
   simp only [pop, St.eval, constSlot, upd_at, Nat.reduceEqDiff, if_true, if_false, eq_self, true_and, and_true, str_list, str_size, str_app, str_cut, str_get, e0_8, e0_9, e0_10, e0_3]
   refine hM _ _ ?_
   clear hM M
   refine pops_done (hR21 _ ?_)
   clear hR21 R21
   try simp only [thenK, scopeK]
   refine hN20 _ ?_
   clear hN20 N20
   refine pwp_ret ?_
   simp only [thenK, blockK, scopeK, bodyK]
   exact ⟨_, rfl, endKeeps1 hk2 rfl⟩

theorem nm34 : (Tryd.f34.name == "runtime.NumGoroutine") = false := by kernel_rfl
theorem names_join_fun (W0 : World) (full : Bool) (xs : List (List UInt8)) (hn : xs.length ≤ 140737488355328) (hj : (Lib.join xs [47]).length ≤ 140737488355328) :
  PFun Tryd.prog W0 34 [.one (.ro full 1 (pstrs xs))] (.tup [.one (pstr (joinR xs).1), .one (pint (joinR xs).2)]) := by
 intro h
 refine pcalls1 (n := 23) Tryd.func34 rfl nm34 rfl fun hb => ?_
 refine pwp_then fun N1 hN1 => ?_
 refine pwp_reg fun R2 hR2 => ?_
 refine pops_to rfl fun M hM => ?_
 simp only [pop, St.eval, constSlot, upd_at, Nat.reduceEqDiff, if_true, if_false, eq_self, true_and, and_true, str_list, str_size, str_app, str_cut, str_get]
 refine hM _ _ ?_
 clear hM M
 refine pops_to rfl fun M hM => ?_
 simp only [pop, St.eval, constSlot, upd_at, Nat.reduceEqDiff, if_true, if_false, eq_self, true_and, and_true, str_list, str_size, str_app, str_cut, str_get]
 refine hM _ _ ?_
 clear hM M
 refine pops_done (hR2 _ ?_)
 clear hR2 R2
 try simp only [thenK, scopeK]
 refine hN1 _ ?_
 clear hN1 N1
 refine pwp_then fun N3 hN3 => ?_
 refine pwp_then fun N4 hN4 => ?_
 refine pwp_reg fun R5 hR5 => ?_
 refine pops_to rfl fun M hM => ?_
 simp only [pop, St.eval, constSlot, upd_at, Nat.reduceEqDiff, if_true, if_false, eq_self, true_and, and_true, str_list, str_size, str_app, str_cut, str_get]
 refine hM _ _ ?_
 clear hM M
 refine pops_to rfl fun M hM => ?_
 simp only [pop, St.eval, constSlot, upd_at, Nat.reduceEqDiff, if_true, if_false, popCall, List.toList_toArray, List.map_cons, List.map_nil, popBuiltin, popLen, lenOfSlot, List.length_map, Tryd.underlying49, eq_self, true_and, and_true, str_list, str_size, str_app, str_cut, str_get]
 refine hM _ _ ?_
 clear hM M
 refine pops_to rfl fun M hM => ?_
 simp only [pop, St.eval, constSlot, upd_at, Nat.reduceEqDiff, if_true, if_false, eq_self, true_and, and_true, str_list, str_size, str_app, str_cut, str_get]
 refine hM _ _ ?_
 clear hM M
 refine pops_done (hR5 _ ?_)
 clear hR5 R5
 try simp only [thenK, scopeK]
 refine hN4 _ ?_
 clear hN4 N4
 refine pwp_block ?_
 refine pwp_loop (fun k σ => ∃ (i : Nat), (k = (xs).length - i) ∧ (i ≤ (xs).length) ∧ (∀ y ∈ xs.take i, isNameB y = true) ∧ (Same h σ.hp) ∧ (σ.env 7 = .sv (.one (.ro full 1 (pstrs xs)))) ∧ (σ.env 8 = .sv (.one (pint ((xs).length : Nat)))) ∧ (σ.env 9 = .sv (.one (pint (i : Nat)))) ∧ (σ.env 0 = .sv (.one (.ro full 1 (pstrs xs))))) _ ⟨_, .refl _ _, 0, rfl, ?_⟩ ?_
 · exact ⟨Nat.zero_le _, by simp, (Same.refl _), by simp only [upd_at, Nat.reduceEqDiff, if_true, if_false], by simp only [upd_at, Nat.reduceEqDiff, if_true, if_false], by simp only [upd_at, Nat.reduceEqDiff, if_true, if_false]; rfl, by simp only [upd_at, Nat.reduceEqDiff, if_true, if_false]⟩
 ·rintro k ⟨e, hp0⟩ ⟨i, hk0, hx0_0, hx0_1, sl0, e0_7, e0_8, e0_9, e0_0⟩
  simp only at sl0 e0_7 e0_8 e0_9 e0_0
  refine pwp_then fun N6 hN6 => ?_
  refine pwp_reg fun R7 hR7 => ?_
  refine pops_to rfl fun M hM => ?_
  simp only [pop, St.eval, constSlot, upd_at, Nat.reduceEqDiff, if_true, if_false, popBin, binK, intK, strK, eqK, eq_self, true_and, and_true, str_list, str_size, str_app, str_cut, str_get, e0_7, e0_8, e0_9, e0_0]
  refine hM _ _ ?_
  clear hM M
  refine pops_done (hR7 _ ?_)
  clear hR7 R7
  try simp only [thenK, scopeK]
  refine hN6 _ ?_
  clear hN6 N6
  refine pwp_then fun N8 hN8 => ?_
  refine pwp_cond (by simp only [St.eval, upd_at, Nat.reduceEqDiff, if_true, if_false, e0_7, e0_8, e0_9, e0_0] <;> rfl) (fun c10 => ?_) (fun c10 => ?_)
  ·skip
   have hi : i < (xs).length := by have := of_decide_eq_true c10; omega
   obtain ⟨x, hx⟩ : ∃ x, (xs)[i]? = some x := ⟨_, List.getElem?_eq_getElem hi⟩
   have hget : (pstrs (xs))[i]? = some [pstr x] := by simp only [List.getElem?_map, hx, Option.map_some]
   refine pwp_skip ?_
   try simp only [thenK, scopeK]
   refine hN8 _ ?_
   clear hN8 N8
   refine pwp_then fun N9 hN9 => ?_
   refine pwp_block ?_
   refine pwp_then fun N10 hN10 => ?_
   refine pwp_reg fun R11 hR11 => ?_
   refine pops_to rfl fun M hM => ?_
   simp only [pop, St.eval, constSlot, upd_at, Nat.reduceEqDiff, if_true, if_false, popIndexAddr, Tryd.underlying49, sz9, eq_self, true_and, and_true, str_list, str_size, str_app, str_cut, str_get, e0_7, e0_8, e0_9, e0_0, hget, Int.toNat_natCast]
   refine ⟨Int.natCast_nonneg _, hM _ _ ?_⟩
   clear hM M
   refine pops_to rfl fun M hM => ?_
   simp only [pop, St.eval, constSlot, upd_at, Nat.reduceEqDiff, if_true, if_false, popLoad, loadK, isAggD, List.drop_zero, List.getElem?_toArray, List.getElem?_cons_zero, List.getElem?_cons_succ, Bool.false_eq_true, Tryd.underlying9, sz9, eq_self, true_and, and_true, str_list, str_size, str_app, str_cut, str_get, e0_7, e0_8, e0_9, e0_0, hget, Int.toNat_natCast]
   refine hM _ _ ?_
   clear hM M
   refine pops_to rfl fun M hM => ?_
   simp only [pop, St.eval, constSlot, upd_at, Nat.reduceEqDiff, if_true, if_false, eq_self, true_and, and_true, str_list, str_size, str_app, str_cut, str_get, e0_7, e0_8, e0_9, e0_0, hget, Int.toNat_natCast]
   refine hM _ _ ?_
   clear hM M
   refine pops_done (hR11 _ ?_)
   clear hR11 R11
   try simp only [thenK, scopeK]
   refine hN10 _ ?_
   clear hN10 N10
   refine pwp_then fun N12 hN12 => ?_
   refine pwp_reg fun R13 hR13 => ?_
   refine pops_to rfl fun M hM => ?_
   simp only [pop, St.eval, constSlot, upd_at, Nat.reduceEqDiff, if_true, if_false, eq_self, true_and, and_true, str_list, str_size, str_app, str_cut, str_get, e0_7, e0_8, e0_9, e0_0, hget, Int.toNat_natCast]
   refine hM _ _ ?_
   clear hM M
   refine pops_to rfl fun M hM => ?_
   simp only [pop, St.eval, constSlot, upd_at, Nat.reduceEqDiff, if_true, if_false, popCall, List.toList_toArray, List.map_cons, List.map_nil, svs, List.mapM_cons, List.mapM_nil, Option.bind_eq_bind, Option.bind_some, Option.pure_def, List.append_nil, List.cons_append, List.nil_append, eq_self, true_and, and_true, str_list, str_size, str_app, str_cut, str_get, e0_7, e0_8, e0_9, e0_0, hget, Int.toNat_natCast]
   refine PFun.use (isName_fun W0 x) fun h1 s1 => hM _ _ ?_
   replace s1 := Same.trans sl0 s1
   clear hM M
   refine pops_to rfl fun M hM => ?_
   simp only [pop, St.eval, constSlot, upd_at, Nat.reduceEqDiff, if_true, if_false, unK, eq_self, true_and, and_true, str_list, str_size, str_app, str_cut, str_get, e0_7, e0_8, e0_9, e0_0, hget, Int.toNat_natCast]
   refine hM _ _ ?_
   clear hM M
   refine pops_done (hR13 _ ?_)
   clear hR13 R13
   try simp only [thenK, scopeK]
   refine hN12 _ ?_
   clear hN12 N12
   refine pwp_cond (by simp only [St.eval, upd_at, Nat.reduceEqDiff, if_true, if_false, e0_7, e0_8, e0_9, e0_0, hget, Int.toNat_natCast] <;> rfl) (fun c15 => ?_) (fun c15 => ?_)
   ·skip
    have hx2 : isNameB x = false := by simpa using c15
    have ha : xs.all isNameB = false := by
      rw [List.all_eq_false]
      exact ⟨x, List.mem_of_getElem? hx, by simp [hx2]⟩
    refine pwp_then fun N14 hN14 => ?_
    refine pwp_reg fun R15 hR15 => ?_
    refine pops_to rfl fun M hM => ?_
    simp only [pop, St.eval, constSlot, upd_at, Nat.reduceEqDiff, if_true, if_false, eq_self, true_and, and_true, str_list, str_size, str_app, str_cut, str_get, e0_7, e0_8, e0_9, e0_0, hget, Int.toNat_natCast]
    refine hM _ _ ?_
    clear hM M
    refine pops_to rfl fun M hM => ?_
    simp only [pop, St.eval, constSlot, upd_at, Nat.reduceEqDiff, if_true, if_false, eq_self, true_and, and_true, str_list, str_size, str_app, str_cut, str_get, e0_7, e0_8, e0_9, e0_0, hget, Int.toNat_natCast]
    refine hM _ _ ?_
    clear hM M
    refine pops_done (hR15 _ ?_)
    clear hR15 R15
    try simp only [thenK, scopeK]
    refine hN14 _ ?_
    clear hN14 N14
    refine pwp_ret ?_
    simp only [thenK, blockK, scopeK, bodyK]
    clear hN9 N9 hN3 N3
    refine ⟨_, rfl, endFun s1 ?_⟩
    try simp only [upd_at, Nat.reduceEqDiff, if_true, if_false, e0_7, e0_8, e0_9, e0_0, hget, Int.toNat_natCast]
    all_goals
     rw [joinR_1 ha]
   ·skip
    refine pwp_skip ?_
    try simp only [blockK, thenK, scopeK]
    try simp only [thenK, scopeK]
    refine hN9 _ ?_
    clear hN9 N9
    refine pwp_reg fun R16 hR16 => ?_
    refine pops_to rfl fun M hM => ?_
    simp only [pop, St.eval, constSlot, upd_at, Nat.reduceEqDiff, if_true, if_false, popBin, binK, intK, strK, eqK, eq_self, true_and, and_true, str_list, str_size, str_app, str_cut, str_get, e0_7, e0_8, e0_9, e0_0, hget, Int.toNat_natCast]
    refine hM _ _ ?_
    clear hM M
    refine pops_to rfl fun M hM => ?_
    simp only [pop, St.eval, constSlot, upd_at, Nat.reduceEqDiff, if_true, if_false, eq_self, true_and, and_true, str_list, str_size, str_app, str_cut, str_get, e0_7, e0_8, e0_9, e0_0, hget, Int.toNat_natCast]
    refine hM _ _ ?_
    clear hM M
    refine pops_done (hR16 _ ?_)
    clear hR16 R16
    try simp only [thenK, scopeK]
    exact ⟨_, by omega, _, .refl _ _, i + 1, rfl, by omega, by rw [List.take_add_one, hx]; simp only [Option.toList_some, List.mem_append, List.mem_singleton]; rintro y (hy | rfl); exact hx0_1 y hy; simpa using c15, s1, by simp only [upd_at, Nat.reduceEqDiff, if_true, if_false, e0_7, e0_8, e0_9, e0_0, hget, Int.toNat_natCast], by simp only [upd_at, Nat.reduceEqDiff, if_true, if_false, e0_7, e0_8, e0_9, e0_0, hget, Int.toNat_natCast], by simp only [upd_at, Nat.reduceEqDiff, if_true, if_false, e0_9]; rw [wrap_succ (by omega)], by simp only [upd_at, Nat.reduceEqDiff, if_true, if_false, e0_7, e0_8, e0_9, e0_0, hget, Int.toNat_natCast]⟩
  ·skip
   have hi := of_decide_eq_false c10
   have ha : xs.all isNameB = true := by
     simp only [List.all_eq_true]
     intro y hy
     exact hx0_1 y (by rw [List.take_of_length_le (by omega)]; exact hy)
   refine pwp_exit ?_
   try simp only [thenK, blockK, scopeK, if_true, Nat.reduceEqDiff, if_false]
   clear hN8 N8
   try simp only [blockK, scopeK, if_true, Nat.reduceEqDiff, if_false, thenK]
   try simp only [thenK, scopeK]
   refine hN3 _ ?_
   clear hN3 N3
   refine pwp_then fun N17 hN17 => ?_
   refine pwp_reg fun R18 hR18 => ?_
   refine pops_to rfl fun M hM => ?_
   simp only [pop, St.eval, constSlot, upd_at, Nat.reduceEqDiff, if_true, if_false, eq_self, true_and, and_true, str_list, str_size, str_app, str_cut, str_get, e0_7, e0_8, e0_9, e0_0]
   refine hM _ _ ?_
   clear hM M
   refine pops_to rfl fun M hM => ?_
   simp only [pop, St.eval, constSlot, upd_at, Nat.reduceEqDiff, if_true, if_false, popCall, List.toList_toArray, List.map_cons, List.map_nil, svs, List.mapM_cons, List.mapM_nil, Option.bind_eq_bind, Option.bind_some, Option.pure_def, List.append_nil, List.cons_append, List.nil_append, eq_self, true_and, and_true, str_list, str_size, str_app, str_cut, str_get, e0_7, e0_8, e0_9, e0_0]
   refine PFun.use (join_fun W0 full xs hn hj) fun h2 s2 => hM _ _ ?_
   replace s2 := Same.trans sl0 s2
   clear hM M
   refine pops_to rfl fun M hM => ?_
   simp only [pop, St.eval, constSlot, upd_at, Nat.reduceEqDiff, if_true, if_false, eq_self, true_and, and_true, str_list, str_size, str_app, str_cut, str_get, e0_7, e0_8, e0_9, e0_0]
   refine hM _ _ ?_
   clear hM M
   refine pops_done (hR18 _ ?_)
   clear hR18 R18
   try simp only [thenK, scopeK]
   refine hN17 _ ?_
   clear hN17 N17
   refine pwp_then fun N19 hN19 => ?_
   refine pwp_then fun N20 hN20 => ?_
   refine pwp_reg fun R21 hR21 => ?_
   refine pops_to rfl fun M hM => ?_
   simp only [pop, St.eval, constSlot, upd_at, Nat.reduceEqDiff, if_true, if_false, eq_self, true_and, and_true, str_list, str_size, str_app, str_cut, str_get, e0_7, e0_8, e0_9, e0_0]
   refine hM _ _ ?_
   clear hM M
   refine pops_to rfl fun M hM => ?_
   simp only [pop, St.eval, constSlot, upd_at, Nat.reduceEqDiff, if_true, if_false, popCall, List.toList_toArray, List.map_cons, List.map_nil, popBuiltin, popLen, lenOfSlot, List.length_map, Tryd.underlying9, eq_self, true_and, and_true, str_list, str_size, str_app, str_cut, str_get, e0_7, e0_8, e0_9, e0_0]
   refine hM _ _ ?_
   clear hM M
   refine pops_to rfl fun M hM => ?_
   simp only [pop, St.eval, constSlot, upd_at, Nat.reduceEqDiff, if_true, if_false, popBin, binK, intK, strK, eqK, eq_self, true_and, and_true, str_list, str_size, str_app, str_cut, str_get, e0_7, e0_8, e0_9, e0_0]
   refine hM _ _ ?_
   clear hM M
   refine pops_done (hR21 _ ?_)
   clear hR21 R21
   try simp only [thenK, scopeK]
   refine hN20 _ ?_
   clear hN20 N20
   refine pwp_cond (by simp only [St.eval, upd_at, Nat.reduceEqDiff, if_true, if_false, e0_7, e0_8, e0_9, e0_0] <;> rfl) (fun c21 => ?_) (fun c21 => ?_)
   ·skip
    have hl2 : 1024 < (Lib.join xs [47]).length := by have := of_decide_eq_true c21; omega
    refine pwp_then fun N22 hN22 => ?_
    refine pwp_reg fun R23 hR23 => ?_
    refine pops_to rfl fun M hM => ?_
    simp only [pop, St.eval, constSlot, upd_at, Nat.reduceEqDiff, if_true, if_false, eq_self, true_and, and_true, str_list, str_size, str_app, str_cut, str_get, e0_7, e0_8, e0_9, e0_0]
    refine hM _ _ ?_
    clear hM M
    refine pops_to rfl fun M hM => ?_
    simp only [pop, St.eval, constSlot, upd_at, Nat.reduceEqDiff, if_true, if_false, eq_self, true_and, and_true, str_list, str_size, str_app, str_cut, str_get, e0_7, e0_8, e0_9, e0_0]
    refine hM _ _ ?_
    clear hM M
    refine pops_done (hR23 _ ?_)
    clear hR23 R23
    try simp only [thenK, scopeK]
    refine hN22 _ ?_
    clear hN22 N22
    refine pwp_ret ?_
    simp only [thenK, blockK, scopeK, bodyK]
    clear hN19 N19
    refine ⟨_, rfl, endFun s2 ?_⟩
    try simp only [upd_at, Nat.reduceEqDiff, if_true, if_false, e0_7, e0_8, e0_9, e0_0]
    all_goals
     rw [joinR_2 ha hl2]
   ·skip
    have hl2 : ¬ 1024 < (Lib.join xs [47]).length := by have := of_decide_eq_false c21; omega
    refine pwp_skip ?_
    try simp only [thenK, scopeK]
    refine hN19 _ ?_
    clear hN19 N19
    refine pwp_then fun N24 hN24 => ?_
    refine pwp_reg fun R25 hR25 => ?_
    refine pops_to rfl fun M hM => ?_
    simp only [pop, St.eval, constSlot, upd_at, Nat.reduceEqDiff, if_true, if_false, eq_self, true_and, and_true, str_list, str_size, str_app, str_cut, str_get, e0_7, e0_8, e0_9, e0_0]
    refine hM _ _ ?_
    clear hM M
    refine pops_to rfl fun M hM => ?_
    simp only [pop, St.eval, constSlot, upd_at, Nat.reduceEqDiff, if_true, if_false, eq_self, true_and, and_true, str_list, str_size, str_app, str_cut, str_get, e0_7, e0_8, e0_9, e0_0]
    refine hM _ _ ?_
    clear hM M
    refine pops_to rfl fun M hM => ?_
    simp only [pop, St.eval, constSlot, upd_at, Nat.reduceEqDiff, if_true, if_false, eq_self, true_and, and_true, str_list, str_size, str_app, str_cut, str_get, e0_7, e0_8, e0_9, e0_0]
    refine hM _ _ ?_
    clear hM M
    refine pops_done (hR25 _ ?_)
    clear hR25 R25
    try simp only [thenK, scopeK]
    refine hN24 _ ?_
    clear hN24 N24
    refine pwp_ret ?_
    simp only [thenK, blockK, scopeK, bodyK]
    refine ⟨_, rfl, endFun s2 ?_⟩
    try simp only [upd_at, Nat.reduceEqDiff, if_true, if_false, e0_7, e0_8, e0_9, e0_0]
    all_goals
     rw [joinR_3 ha hl2]
end Go.Pw
