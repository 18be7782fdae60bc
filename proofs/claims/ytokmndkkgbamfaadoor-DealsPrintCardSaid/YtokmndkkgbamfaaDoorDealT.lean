import Derived.Test.YtokmndkkgbamfaaDoorDealD
import Derived.Test.YtokmndkkgbamfaaDoorDealS
import Derived.Lib.ItoaLen
namespace Go.Pw
open Go Go.RowKit Go.Proofs
set_option maxRecDepth 100000
set_option linter.unusedSimpArgs false
set_option linter.unusedVariables false

theorem Bld.keeps {tb t8 : TypeId} {h0 hp hq : Hp} {id : Nat} {l : List UInt8} (B : Bld tb t8 h0 hp id l) (k : Keeps hp hq) : Bld tb t8 h0 hq id l := by
  obtain ⟨a, buf, ha, B⟩ := B
  exact ⟨a, buf, ha, B.lim, B.keeps.trans k, B.row.keeps k, B.nilE⟩
theorem actE_ok {x : ActG} (h : actE x = 0) : (x.kind = 1 ∨ x.kind = 2 ∨ x.kind = 3 ∨ x.kind = 4) ∧ (x.side = 1 ∨ x.side = 2) ∧ x.src.length ≤ 1024 ∧ x.dst.length ≤ 1024 := by
  have pl : ∀ p, pathB p = true → p.length ≤ 1024 := fun p hp => by
    unfold pathB at hp
    simp at hp
    exact isPathB_len hp.2
  unfold actE at h
  split at h
  · cases h
  · rename_i h5
    split at h
    · cases h
    · rename_i h1
      split at h
      · cases h
      · rename_i h6
        simp [actC5] at h5
        simp [actC1, twoB] at h1
        simp [actC6, twoB] at h6
        refine ⟨by omega, ?_, pl _ h1.1, ?_⟩
        · by_cases hs : x.side = 1
          · exact .inl hs
          · exact .inr (h5.2 hs)
        · by_cases hk : x.kind = 1 ∨ x.kind = 2
          · exact pl _ (h1.2 hk)
          · rw [h6.1 (fun e => hk (.inl e)) (fun e => hk (.inr e))]
            exact Nat.zero_le _
theorem deal_ok {d : DealG} (h : dealE d = 0) : d.acts.length ≤ 20000 ∧ d.refs.length ≤ 5000 ∧ d.eqs.length ≤ 5000 ∧ d.cons.length ≤ 5000 ∧ (∀ x ∈ d.acts, actE x = 0) ∧ (∀ r ∈ d.refs, r.1.length ≤ 1024) ∧ (∀ p ∈ d.eqs, p.length ≤ 1024) ∧ (∀ p ∈ d.cons, p.length ≤ 1024) := by
  unfold dealE at h
  split at h
  · cases h
  · rename_i hb
    split at h
    · rename_i ha; exact absurd h ha
    · rename_i ha
      have ha : actsE d.acts = 0 := Classical.not_not.1 ha
      have hp : ∀ p ∈ d.refs.map (·.1) ++ (d.eqs ++ d.cons), p.length ≤ 1024 := fun p hp => by
        unfold pathsE at h
        split at h
        · rename_i hall
          exact isPathB_len (List.all_eq_true.1 hall p hp)
        · cases h
      refine ⟨by omega, by omega, by omega, by omega, ?_, fun r hr => hp _ (List.mem_append.2 (.inl (List.mem_map.2 ⟨r, hr, rfl⟩))), fun p h1 => hp _ (List.mem_append.2 (.inr (List.mem_append.2 (.inl h1)))), fun p h1 => hp _ (List.mem_append.2 (.inr (List.mem_append.2 (.inr h1))))⟩
      intro x hx
      have key : ∀ l : List ActG, actsE l = 0 → ∀ x ∈ l, actE x = 0 := by
        intro l
        induction l with
        | nil => intro _ x hx; cases hx
        | cons a l ih =>
          intro h x hx
          rw [actsE] at h
          split at h
          · rename_i h0
            rcases List.mem_cons.1 hx with rfl | hx
            · exact h0
            · exact ih h x hx
          · rename_i h0; exact absurd h h0
      exact key _ ha x hx
theorem flatT_step {α : Type} {f : α → List UInt8} {l : List α} {i : Nat} {x : α} (hx : l[i]? = some x) : ((l.take (i + 1)).map f).flatten = ((l.take i).map f).flatten ++ f x := by
  rw [List.take_add_one, hx]; simp
theorem flatT_len {α : Type} {f : α → List UInt8} {B : Nat} : ∀ {l : List α} (h : ∀ x ∈ l, (f x).length ≤ B) (i : Nat), ((l.take i).map f).flatten.length ≤ B * l.length
  | [], _, i => by simp
  | a :: l, h, 0 => by simp
  | a :: l, h, i + 1 => by
    have h1 := h a (by simp)
    have h2 := flatT_len (l := l) (fun x hx => h x (by simp [hx])) i
    simp only [List.take_succ_cons, List.map_cons, List.flatten_cons, List.length_append, List.length_cons, Nat.mul_add, Nat.mul_one]
    omega
def refL (r : List UInt8 × Int) : List UInt8 := lineW [REFUSED, Lib.itoa r.2, quoteB r.1]
def eqL (p : List UInt8) : List UInt8 := lineW [EQUAL, quoteB p]
def conL (p : List UInt8) : List UInt8 := lineW [CONFLICT, quoteB p]
def actL (x : ActG) : List UInt8 := lineW (actW x)
def actT (d : DealG) (i : Nat) : List UInt8 := ((d.acts.take i).map actL).flatten
def refT (d : DealG) (i : Nat) : List UInt8 := actT d d.acts.length ++ ((d.refs.take i).map refL).flatten
def eqT (d : DealG) (i : Nat) : List UInt8 := refT d d.refs.length ++ ((d.eqs.take i).map eqL).flatten
def conT (d : DealG) (i : Nat) : List UInt8 := eqT d d.eqs.length ++ ((d.cons.take i).map conL).flatten
theorem conT_end (d : DealG) : conT d d.cons.length = dealT d := by
  simp only [conT, eqT, refT, actT, List.take_length, dealT, List.append_assoc]
  rfl
theorem actT_zero (d : DealG) : actT d 0 = [] := rfl
theorem refT_zero (d : DealG) : refT d 0 = actT d d.acts.length := by simp [refT]
theorem eqT_zero (d : DealG) : eqT d 0 = refT d d.refs.length := by simp [eqT]
theorem conT_zero (d : DealG) : conT d 0 = eqT d d.eqs.length := by simp [conT]
theorem actT_step {d : DealG} {i : Nat} {x : ActG} (hx : d.acts[i]? = some x) : actT d (i + 1) = actT d i ++ actL x := flatT_step hx
theorem refT_step {d : DealG} {i : Nat} {x : List UInt8 × Int} (hx : d.refs[i]? = some x) : refT d (i + 1) = refT d i ++ refL x := by
  rw [refT, refT, flatT_step hx, List.append_assoc]
theorem eqT_step {d : DealG} {i : Nat} {x : List UInt8} (hx : d.eqs[i]? = some x) : eqT d (i + 1) = eqT d i ++ eqL x := by
  rw [eqT, eqT, flatT_step hx, List.append_assoc]
theorem conT_step {d : DealG} {i : Nat} {x : List UInt8} (hx : d.cons[i]? = some x) : conT d (i + 1) = conT d i ++ conL x := by
  rw [conT, conT, flatT_step hx, List.append_assoc]
theorem lineW1 (a : List UInt8) : lineW [a] = a ++ [10] := by simp [lineW, Lib.join_cons, Lib.joinTail]
theorem lineW_cons (a b : List UInt8) (l : List (List UInt8)) : lineW (a :: b :: l) = a ++ ([32] ++ lineW (b :: l)) := by
  simp [lineW, Lib.join_cons, Lib.joinTail]
def dealI (d : DealG) : Prop := (∀ x ∈ d.acts, inI64 x.kind ∧ inI64 x.side ∧ inI64 x.size ∧ inI64 x.time) ∧ ∀ r ∈ d.refs, inI64 r.2
theorem quote_1024 {s : List UInt8} (h : s.length ≤ 1024) : (quoteB s).length ≤ 4098 := by have := quote_len s; omega
theorem word_len (k : Int) : (wordK k).length ≤ 6 := by
  unfold wordK
  repeat' split
  all_goals simp
theorem side_len (k : Int) : (sideK k).length = 1 := by unfold sideK; split <;> rfl
theorem itoa_21 {n : Int} (h : inI64 n) : (Lib.itoa n).length ≤ 21 := Lib.itoa_length_le n h.1 h.2
theorem actL_len {x : ActG} (h : actE x = 0) (h1 : inI64 x.size) (h2 : inI64 x.time) : (actL x).length ≤ 8400 := by
  obtain ⟨_, _, hs, hd⟩ := actE_ok h
  have := quote_1024 hs
  have := quote_1024 hd
  have := word_len x.kind
  have := side_len x.side
  have := itoa_21 h1
  have := itoa_21 h2
  unfold actL actW
  split <;> split <;> simp only [List.nil_append, List.cons_append, List.append_nil, lineW_cons, lineW1, List.length_append, List.length_cons, List.length_nil] <;> omega
theorem refL_len {r : List UInt8 × Int} (h : r.1.length ≤ 1024) (h1 : inI64 r.2) : (refL r).length ≤ 4200 := by
  have := quote_1024 h
  have := itoa_21 h1
  simp only [refL, REFUSED, lineW_cons, lineW1, List.length_append, List.length_cons, List.length_nil]
  omega
theorem eqL_len {p : List UInt8} (h : p.length ≤ 1024) : (eqL p).length ≤ 4200 := by
  have := quote_1024 h
  simp only [eqL, EQUAL, lineW_cons, lineW1, List.length_append, List.length_cons, List.length_nil]
  omega
theorem conL_len {p : List UInt8} (h : p.length ≤ 1024) : (conL p).length ≤ 4200 := by
  have := quote_1024 h
  simp only [conL, CONFLICT, lineW_cons, lineW1, List.length_append, List.length_cons, List.length_nil]
  omega
theorem deal_len {d : DealG} (h : dealE d = 0) (hi : dealI d) (i : Nat) : (actT d i).length ≤ 168000000 ∧ (refT d i).length ≤ 189000000 ∧ (eqT d i).length ≤ 210000000 ∧ (conT d i).length ≤ 231000000 := by
  obtain ⟨a1, a2, a3, a4, a5, a6, a7, a8⟩ := deal_ok h
  have hA : ∀ j, (actT d j).length ≤ 168000000 := fun j => by
    have := flatT_len (f := actL) (B := 8400) (l := d.acts) (fun x hx => actL_len (a5 x hx) (hi.1 x hx).2.2.1 (hi.1 x hx).2.2.2) j
    unfold actT
    omega
  have hR : ∀ j, (refT d j).length ≤ 189000000 := fun j => by
    have := flatT_len (f := refL) (B := 4200) (l := d.refs) (fun x hx => refL_len (a6 x hx) (hi.2 x hx)) j
    have := hA d.acts.length
    unfold refT
    rw [List.length_append]
    omega
  have hE : ∀ j, (eqT d j).length ≤ 210000000 := fun j => by
    have := flatT_len (f := eqL) (B := 4200) (l := d.eqs) (fun x hx => eqL_len (a7 x hx)) j
    have := hR d.refs.length
    unfold eqT
    rw [List.length_append]
    omega
  refine ⟨hA i, hR i, hE i, ?_⟩
  have := flatT_len (f := conL) (B := 4200) (l := d.cons) (fun x hx => conL_len (a8 x hx)) i
  have := hE d.eqs.length
  unfold conT
  rw [List.length_append]
  omega
theorem actW_put {x : ActG} (hk : x.kind = 1) (hd : x.dst = []) : actW x = [wordK x.kind, sideK x.side, Lib.itoa x.size, Lib.itoa x.time, quoteB x.src] := by rw [actW, if_pos hk, if_pos hd]; rfl
theorem actW_put2 {x : ActG} (hk : x.kind = 1) (hd : ¬ x.dst = []) : actW x = [wordK x.kind, sideK x.side, Lib.itoa x.size, Lib.itoa x.time, quoteB x.src, quoteB x.dst] := by rw [actW, if_pos hk, if_neg hd]; rfl
theorem actW_no {x : ActG} (hk : ¬ x.kind = 1) (hd : x.dst = []) : actW x = [wordK x.kind, sideK x.side, quoteB x.src] := by rw [actW, if_neg hk, if_pos hd]; rfl
theorem actW_no2 {x : ActG} (hk : ¬ x.kind = 1) (hd : ¬ x.dst = []) : actW x = [wordK x.kind, sideK x.side, quoteB x.src, quoteB x.dst] := by rw [actW, if_neg hk, if_neg hd]; rfl
abbrev WORDS : List (List UInt8) := [[], [112, 117, 116], [107, 101, 101, 112], [114, 101, 109, 111, 118, 101], [99, 108, 101, 97, 114]]
theorem word_at {k : Int} (h : k = 1 ∨ k = 2 ∨ k = 3 ∨ k = 4) : (0 ≤ k ∧ k < 5) ∧ (∃ rest, ([pstr [], pstr [112, 117, 116], pstr [107, 101, 101, 112], pstr [114, 101, 109, 111, 118, 101], pstr [99, 108, 101, 97, 114]] : List PV).drop k.toNat = pstr (wordK k) :: rest) ∧ ([[pstr []], [pstr [112, 117, 116]], [pstr [107, 101, 101, 112]], [pstr [114, 101, 109, 111, 118, 101]], [pstr [99, 108, 101, 97, 114]]] : List (List PV))[k.toNat]? = some [pstr (wordK k)] := by
  rcases h with rfl | rfl | rfl | rfl <;> exact ⟨by decide, ⟨_, rfl⟩, rfl⟩
theorem side_at {s : Int} (h : s = 1 ∨ s = 2) : 0 ≤ IntKind.i64.wrap (s - 1) ∧ ([[pstr [65]], [pstr [66]]] : List (List PV))[(IntKind.i64.wrap (s - 1)).toNat]? = some [pstr (sideK s)] ∧ IntKind.i64.wrap (s + 1) = s + 1 ∧ (0 ≤ s ∧ s ≤ s + 1 ∧ s + 1 ≤ 3) ∧ (([63, 65, 66] : List UInt8).take (s + 1).toNat).drop s.toNat = sideK s := by
  rcases h with rfl | rfl <;> exact ⟨by decide, rfl, by decide, by decide, rfl⟩
theorem nm14 : (Tryd.f14.name == "runtime.NumGoroutine") = false := by kernel_rfl
theorem line_fun (W0 : World) (h0 : Hp) (id : Nat) (l : List UInt8) (full : Bool) (xs : List (List UInt8)) (hb0 : hpOk h0) (hn : xs.length ≤ 100) (hj : (lineW xs).length ≤ 4294967296) (hlim : l.length ≤ 4294967296) (h : Hp) (B : Bld 45 5 h0 h id l) :
  PCalls Tryd.prog W0 14 [.one (.ro full 1 (pstrs xs)), .one (.ptr id 0 0 0)] h (fun r h' => r = .tup [] ∧ Bld 45 5 h0 h' id (l ++ lineW xs)) := by
 have hj2 : (Lib.join xs [32]).length ≤ 4294967296 := by unfold lineW at hj; rw [List.length_append] at hj; omega
 refine pcalls2 (n := 7) Tryd.func14 rfl nm14 rfl fun hb => ?_
 refine pwp_reg fun R1 hR1 => ?_
 refine pops_mv (.inl rfl) rfl (by simp only [St.eval, upd_at, Nat.reduceEqDiff, if_true, if_false] <;> rfl) ?_
 refine pops_to rfl fun M hM => ?_
 simp only [pop, St.eval, constSlot, upd_at, Nat.reduceEqDiff, if_true, if_false, popCall, List.toList_toArray, List.map_cons, List.map_nil, svs, List.mapM_cons, List.mapM_nil, Option.bind_eq_bind, Option.bind_some, Option.pure_def, List.append_nil, List.cons_append, List.nil_append, str_size]
 refine PFun.use (join_fun W0 full xs (by omega) (by omega)) fun h1 s1 => hM _ _ ?_
 replace s1 := Same.trans (Same.refl _) s1
 clear hM M
 refine pops_to rfl fun M hM => ?_
 simp only [pop, St.eval, constSlot, upd_at, Nat.reduceEqDiff, if_true, if_false, popBin, binK, intK, strK, eqK, eq_self, true_and, and_true, str_list, str_size, str_app, str_cut, str_get]
 refine ⟨by simp only [List.length_cons, List.length_nil]; omega, hM _ _ ?_⟩
 clear hM M
 refine pops_to rfl fun M hM => ?_
 simp only [pop, St.eval, constSlot, upd_at, Nat.reduceEqDiff, if_true, if_false, popCall, List.toList_toArray, List.map_cons, List.map_nil, svs, List.mapM_cons, List.mapM_nil, Option.bind_eq_bind, Option.bind_some, Option.pure_def, List.append_nil, List.cons_append, List.nil_append, str_size]
 refine (writeString_bld W0 h0 id l (lineW xs) hb0 (by omega) _ (B.keeps (Same.keeps s1))).mono ?_
 rintro _ h9 ⟨rfl, hB9⟩
 refine hM _ _ ?_
 clear hM M
 refine pops_done (hR1 _ ?_)
 clear hR1 R1
 simp only [bodyK]
 exact ⟨_, rfl, _, _, .refl _ _ _, rfl, hB9⟩
end Go.Pw
