import Derived.Test.YtokmndkkgbamfaaGreatDoorChgR
import Derived.Test.YtokmndkkgbamfaaGreatDoorChgFacts
namespace Go.Pw
open Go Go.RowKit Go.Proofs
set_option maxRecDepth 100000
set_option linter.unusedSimpArgs false
set_option linter.unusedVariables false
theorem ord_lt_trans {s t u : List UInt8} (h1 : ordR s t < 0) (h2 : ordR t u < 0) : ordR s u < 0 := by
  have h3 := ordR_trans s t u (by omega) (by omega)
  rcases Int.lt_or_eq_of_le h3 with h | h
  · exact h
  · have e := (ordR_eq s u).1 h
    subst e
    have := ordR_anti s t
    omega
theorem ord_lt_ne {s t : List UInt8} (h : ordR s t < 0) : s ≠ t := by
  rintro rfl
  have := (ordR_eq s s).2 rfl
  omega
theorem rises_cons {x y : MarkG} {l : List MarkG} (h : risesB (x :: y :: l) = true) : ordR x.path y.path < 0 ∧ risesB (y :: l) = true := by
  have e : pairsM (x :: y :: l) = (x, y) :: pairsM (y :: l) := rfl
  unfold risesB at h ⊢
  rw [e, List.all_cons, Bool.and_eq_true] at h
  exact ⟨of_decide_eq_true h.1, h.2⟩
theorem rises_pw : ∀ {l : List MarkG}, risesB l = true → l.Pairwise fun x y => ordR x.path y.path < 0
  | [], _ => .nil
  | [x], _ => List.pairwise_singleton _ _
  | x :: y :: l, h => by
    obtain ⟨h1, h2⟩ := rises_cons h
    have ih := rises_pw h2
    refine List.pairwise_cons.2 ⟨fun z hz => ?_, ih⟩
    rcases List.mem_cons.1 hz with rfl | hz
    · exact h1
    · exact ord_lt_trans h1 ((List.pairwise_cons.1 ih).1 z hz)
abbrev SM (l : List MarkG) : Prop := l.Pairwise fun x y => ordR x.path y.path < 0
def fO (l : List MarkG) (p : List UInt8) : Option MarkG := l.find? fun x => x.path == p
theorem findM_cons_eq {x : MarkG} {l : List MarkG} {p : List UInt8} (h : x.path = p) : findM (x :: l) p = 0 := find_hitM (i := 0) (by simp) rfl (by simpa using h)
theorem findM_cons_ne {x : MarkG} {l : List MarkG} {p : List UInt8} (h : x.path ≠ p) : findM (x :: l) p = if findM l p < 0 then -1 else findM l p + 1 := by
  unfold findM
  rw [List.findIdx?_cons, show (x.path == p) = false by simpa using h]
  cases l.findIdx? (fun x => x.path == p) with
  | none => rfl
  | some k => simp; omega
theorem findM_neg {l : List MarkG} {p : List UInt8} (h : findM l p < 0) : findM l p = -1 := by
  unfold findM at h ⊢
  split at h
  · omega
  · rfl
theorem bPart_ne {b : Int} {x y : MarkG} {l : List MarkG} (h : x.path ≠ y.path) : bPart b (x :: l) y = bPart b l y := by
  unfold bPart
  rw [findM_cons_ne h]
  by_cases h0 : findM l y.path < 0
  · rw [if_pos h0, if_pos (by decide), if_pos h0]
  · rw [if_neg h0, if_neg (by omega), if_neg h0]
    obtain ⟨k, z, hk, hz⟩ := find_at h0
    rw [hk, show ((k : Int) + 1).toNat = k + 1 by omega, List.getElem?_cons_succ, Int.toNat_natCast]
theorem aPart_ne {x y : MarkG} {m : List MarkG} (h : y.path ≠ x.path) : aPart (y :: m) x = aPart m x := by
  unfold aPart
  rw [findM_cons_ne h]
  by_cases h0 : findM m x.path < 0
  · rw [if_pos h0, if_pos (by decide), if_pos h0]
  · rw [if_neg h0, if_neg (by omega), if_neg h0]
theorem findM_nil (p : List UInt8) : findM [] p = -1 := rfl
theorem findM_none {l : List MarkG} {p : List UInt8} (h : ∀ x ∈ l, x.path ≠ p) : findM l p = -1 := find_noneM fun y hy => by simpa using h y hy
theorem bPart_none {b : Int} {y : MarkG} {l : List MarkG} (h : ∀ x ∈ l, x.path ≠ y.path) : bPart b l y = [(1, y.path)] := bPart_1 (by rw [findM_none h]; decide)
theorem aPart_none {x : MarkG} {m : List MarkG} (h : ∀ y ∈ m, y.path ≠ x.path) : aPart m x = [(3, x.path)] := aPart_1 (by rw [findM_none h]; decide)
theorem map_same {α β : Type} {f g : α → β} {l : List α} (h : ∀ x ∈ l, f x = g x) : l.map f = l.map g := List.map_congr_left h
def foundL (b : Int) (l m : List MarkG) : List (Int × List UInt8) := (m.map (bPart b l)).flatten ++ (l.map (aPart m)).flatten
theorem merge_perm (b : Int) : ∀ (n : Nat) (l m : List MarkG), l.length + m.length ≤ n → SM l → SM m → (mergeC b l m).Perm (foundL b l m) := by
  intro n
  induction n with
  | zero =>
    intro l m hn _ _
    have h1 : l = [] := List.length_eq_zero_iff.1 (by omega)
    have h2 : m = [] := List.length_eq_zero_iff.1 (by omega)
    subst h1 h2
    rw [mergeC]
    exact List.Perm.nil
  | succ n ih =>
    intro l m hn hl hm
    cases l with
    | nil =>
      cases m with
      | nil => rw [mergeC]; exact List.Perm.nil
      | cons y m =>
        rw [mergeC]
        have := ih [] m (by simp only [List.length_cons, List.length_nil] at *; omega) hl (List.pairwise_cons.1 hm).2
        have e : foundL b [] (y :: m) = (1, y.path) :: foundL b [] m := by
          simp only [foundL, List.map_cons, List.flatten_cons, List.map_nil, List.flatten_nil, List.append_nil]
          rw [bPart_none (by simp)]; rfl
        rw [e]
        exact this.cons _
    | cons x l =>
      obtain ⟨hx, hl2⟩ := List.pairwise_cons.1 hl
      cases m with
      | nil =>
        rw [mergeC]
        have := ih l [] (by simp only [List.length_cons, List.length_nil] at *; omega) hl2 hm
        have e : foundL b (x :: l) [] = (3, x.path) :: foundL b l [] := by
          simp only [foundL, List.map_cons, List.flatten_cons, List.map_nil, List.flatten_nil, List.nil_append]
          rw [aPart_none (by simp)]; rfl
        rw [e]
        exact this.cons _
      | cons y m =>
        obtain ⟨hy, hm2⟩ := List.pairwise_cons.1 hm
        rw [mergeC]
        by_cases h1 : ordR x.path y.path < 0
        · rw [if_pos h1]
          have := ih l (y :: m) (by simp only [List.length_cons] at *; omega) hl2 hm
          have hall : ∀ z ∈ y :: m, ordR x.path z.path < 0 := fun z hz => by
            rcases List.mem_cons.1 hz with rfl | hz
            · exact h1
            · exact ord_lt_trans h1 (hy z hz)
          have e : foundL b (x :: l) (y :: m) = ((y :: m).map (bPart b l)).flatten ++ ((3, x.path) :: (l.map (aPart (y :: m))).flatten) := by
            unfold foundL
            rw [map_same (f := bPart b (x :: l)) (g := bPart b l) fun z hz => bPart_ne (ord_lt_ne (hall z hz)), List.map_cons (f := aPart (y :: m)), List.flatten_cons, aPart_none fun z hz e => ord_lt_ne (hall z hz) e.symm]
            rfl
          rw [e]
          exact (this.cons _).trans List.perm_middle.symm
        · rw [if_neg h1]
          have anti := ordR_anti x.path y.path
          by_cases h2 : 0 < ordR x.path y.path
          · rw [if_pos h2]
            have := ih (x :: l) m (by simp only [List.length_cons] at *; omega) hl hm2
            have hall : ∀ z ∈ x :: l, ordR y.path z.path < 0 := fun z hz => by
              rcases List.mem_cons.1 hz with rfl | hz
              · omega
              · exact ord_lt_trans (by omega) (hx z hz)
            have e : foundL b (x :: l) (y :: m) = (1, y.path) :: foundL b (x :: l) m := by
              unfold foundL
              rw [List.map_cons (f := bPart b (x :: l)), List.flatten_cons, bPart_none fun z hz e => ord_lt_ne (hall z hz) e.symm, map_same (f := aPart (y :: m)) (g := aPart m) fun z hz => aPart_ne (ord_lt_ne (hall z hz))]
              rfl
            rw [e]
            exact this.cons _
          · rw [if_neg h2]
            have h0 : x.path = y.path := (ordR_eq _ _).1 (by omega)
            have := ih l m (by simp only [List.length_cons] at *; omega) hl2 hm2
            have e : foundL b (x :: l) (y :: m) = (if differB x y b then [(2, y.path)] else []) ++ foundL b l m := by
              unfold foundL
              rw [List.map_cons (f := bPart b (x :: l)), List.flatten_cons, List.map_cons (f := aPart (y :: m)), List.flatten_cons, aPart_0 (by rw [findM_cons_eq h0.symm]; decide), List.nil_append,
                map_same (f := bPart b (x :: l)) (g := bPart b l) fun z hz => bPart_ne (by rw [h0]; exact ord_lt_ne (hy z hz)), map_same (f := aPart (y :: m)) (g := aPart m) fun z hz => aPart_ne (by rw [← h0]; exact ord_lt_ne (hx z hz)), List.append_assoc]
              congr 1
              cases hd : differB x y b with
              | true => exact bPart_2 (k := 0) (findM_cons_eq h0) rfl hd
              | false => exact bPart_0 (k := 0) (findM_cons_eq h0) rfl hd
            rw [e]
            exact List.Perm.append_left _ this
theorem merge_mem (b : Int) : ∀ (n : Nat) (l m : List MarkG), l.length + m.length ≤ n → ∀ z ∈ mergeC b l m, (∃ x ∈ l, z.2 = x.path) ∨ (∃ y ∈ m, z.2 = y.path) := by
  intro n
  induction n with
  | zero =>
    intro l m hn z hz
    have h1 : l = [] := List.length_eq_zero_iff.1 (by omega)
    have h2 : m = [] := List.length_eq_zero_iff.1 (by omega)
    subst h1 h2
    rw [mergeC] at hz
    cases hz
  | succ n ih =>
    intro l m hn z hz
    have wl : ∀ (x : MarkG) (l : List MarkG) (m m' : List MarkG), (∀ q ∈ m', q ∈ m) → ((∃ x ∈ l, z.2 = x.path) ∨ (∃ y ∈ m', z.2 = y.path)) → (∃ a ∈ x :: l, z.2 = a.path) ∨ (∃ y ∈ m, z.2 = y.path) := fun x l m m' hs h => by
      rcases h with ⟨a, ha, e⟩ | ⟨a, ha, e⟩
      · exact .inl ⟨a, List.mem_cons_of_mem _ ha, e⟩
      · exact .inr ⟨a, hs a ha, e⟩
    cases l with
    | nil =>
      cases m with
      | nil => rw [mergeC] at hz; cases hz
      | cons y m =>
        rw [mergeC] at hz
        rcases List.mem_cons.1 hz with rfl | hz
        · exact .inr ⟨y, by simp, rfl⟩
        · rcases ih [] m (by simp only [List.length_cons, List.length_nil] at *; omega) z hz with h | ⟨a, ha, e⟩
          · exact .inl h
          · exact .inr ⟨a, List.mem_cons_of_mem _ ha, e⟩
    | cons x l =>
      cases m with
      | nil =>
        rw [mergeC] at hz
        rcases List.mem_cons.1 hz with rfl | hz
        · exact .inl ⟨x, by simp, rfl⟩
        · exact wl x l [] [] (fun q h => h) (ih l [] (by simp only [List.length_cons, List.length_nil] at *; omega) z hz)
      | cons y m =>
        rw [mergeC] at hz
        split at hz
        · rcases List.mem_cons.1 hz with rfl | hz
          · exact .inl ⟨x, by simp, rfl⟩
          · exact wl x l _ _ (fun q h => h) (ih l (y :: m) (by simp only [List.length_cons] at *; omega) z hz)
        · split at hz
          · rcases List.mem_cons.1 hz with rfl | hz
            · exact .inr ⟨y, by simp, rfl⟩
            · rcases ih (x :: l) m (by simp only [List.length_cons] at *; omega) z hz with h | ⟨a, ha, e⟩
              · exact .inl h
              · exact .inr ⟨a, List.mem_cons_of_mem _ ha, e⟩
          · rcases List.mem_append.1 hz with hz | hz
            · split at hz
              · simp only [List.mem_singleton] at hz
                exact .inr ⟨y, by simp, by rw [hz]⟩
              · cases hz
            · exact wl x l _ m (fun q h => List.mem_cons_of_mem _ h) (ih l m (by simp only [List.length_cons] at *; omega) z hz)
theorem merge_sorted (b : Int) : ∀ (n : Nat) (l m : List MarkG), l.length + m.length ≤ n → SM l → SM m → (mergeC b l m).Pairwise fun x y => ordR x.2 y.2 < 0 := by
  intro n
  induction n with
  | zero =>
    intro l m hn _ _
    have h1 : l = [] := List.length_eq_zero_iff.1 (by omega)
    have h2 : m = [] := List.length_eq_zero_iff.1 (by omega)
    subst h1 h2
    rw [mergeC]
    exact .nil
  | succ n ih =>
    intro l m hn hl hm
    have head : ∀ (p : List UInt8) (l m : List MarkG), (∀ x ∈ l, ordR p x.path < 0) → (∀ y ∈ m, ordR p y.path < 0) → ∀ z ∈ mergeC b l m, ordR p z.2 < 0 := fun p l m h1 h2 z hz => by
      rcases merge_mem b _ l m (Nat.le_refl _) z hz with ⟨x, hx, e⟩ | ⟨y, hy, e⟩
      · rw [e]; exact h1 x hx
      · rw [e]; exact h2 y hy
    cases l with
    | nil =>
      cases m with
      | nil => rw [mergeC]; exact .nil
      | cons y m =>
        obtain ⟨hy, hm2⟩ := List.pairwise_cons.1 hm
        rw [mergeC]
        exact List.pairwise_cons.2 ⟨head y.path [] m (by simp) hy, ih [] m (by simp only [List.length_cons, List.length_nil] at *; omega) hl hm2⟩
    | cons x l =>
      obtain ⟨hx, hl2⟩ := List.pairwise_cons.1 hl
      cases m with
      | nil =>
        rw [mergeC]
        exact List.pairwise_cons.2 ⟨head x.path l [] hx (by simp), ih l [] (by simp only [List.length_cons, List.length_nil] at *; omega) hl2 hm⟩
      | cons y m =>
        obtain ⟨hy, hm2⟩ := List.pairwise_cons.1 hm
        rw [mergeC]
        by_cases h1 : ordR x.path y.path < 0
        · rw [if_pos h1]
          refine List.pairwise_cons.2 ⟨head x.path l (y :: m) hx fun z hz => ?_, ih l (y :: m) (by simp only [List.length_cons] at *; omega) hl2 hm⟩
          rcases List.mem_cons.1 hz with rfl | hz
          · exact h1
          · exact ord_lt_trans h1 (hy z hz)
        · rw [if_neg h1]
          have anti := ordR_anti x.path y.path
          by_cases h2 : 0 < ordR x.path y.path
          · rw [if_pos h2]
            refine List.pairwise_cons.2 ⟨head y.path (x :: l) m (fun z hz => ?_) hy, ih (x :: l) m (by simp only [List.length_cons] at *; omega) hl hm2⟩
            rcases List.mem_cons.1 hz with rfl | hz
            · show ordR y.path _ < 0
              omega
            · exact ord_lt_trans (show ordR y.path x.path < 0 by omega) (hx z hz)
          · rw [if_neg h2]
            have h0 : x.path = y.path := (ordR_eq _ _).1 (by omega)
            have hrest := ih l m (by simp only [List.length_cons] at *; omega) hl2 hm2
            split
            · exact List.pairwise_cons.2 ⟨head y.path l m (fun z hz => by rw [← h0]; exact hx z hz) hy, hrest⟩
            · exact hrest
theorem sorted_uniq : ∀ {l1 l2 : List (Int × List UInt8)}, l1.Perm l2 → (l1.Pairwise fun x y => ordR x.2 y.2 ≤ 0) → (l2.Pairwise fun x y => ordR x.2 y.2 < 0) → l1 = l2
  | l1, [], hp, _, _ => List.Perm.eq_nil hp
  | [], a :: t, hp, _, _ => absurd (List.Perm.eq_nil hp.symm) (by simp)
  | c :: s, a :: t, hp, h1, h2 => by
    obtain ⟨hc, hs⟩ := List.pairwise_cons.1 h1
    obtain ⟨ha, ht⟩ := List.pairwise_cons.1 h2
    have hca : c = a := by
      rcases List.mem_cons.1 ((List.Perm.mem_iff hp).1 (List.mem_cons_self (a := c) (l := s))) with h | hct
      · exact h
      · rcases List.mem_cons.1 ((List.Perm.mem_iff hp).2 (List.mem_cons_self (a := a) (l := t))) with h | has
        · exact h.symm
        · have e1 := ha c hct
          have e2 := hc a has
          have := ordR_anti a.2 c.2
          omega
    subst hca
    rw [sorted_uniq (List.Perm.cons_inv hp) hs ht]
theorem found_eq (b : Int) (A B : List MarkG) : foundA b A B A.length = foundL b A B := by
  unfold foundA foundB foundL
  rw [List.take_length, List.take_length]
theorem sorted_merge {b : Int} {A B : List MarkG} {l : List (Int × List UInt8)} (hA : risesB A = true) (hB : risesB B = true) (hp : l.Perm (foundA b A B A.length)) (hs : l.Pairwise fun x y => ordR x.2 y.2 ≤ 0) : l = mergeC b A B := by
  rw [found_eq] at hp
  exact sorted_uniq (hp.trans (merge_perm b _ A B (Nat.le_refl _) (rises_pw hA) (rises_pw hB)).symm) hs (merge_sorted b _ A B (Nat.le_refl _) (rises_pw hA) (rises_pw hB))
end Go.Pw
