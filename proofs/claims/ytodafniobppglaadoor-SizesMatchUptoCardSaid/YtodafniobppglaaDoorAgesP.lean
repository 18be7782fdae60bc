import Derived.Test.YtodafniobppglaaDoorBytes
namespace Go.Pw
open Go Go.RowKit Go.Proofs
set_option maxRecDepth 100000
set_option linter.unusedSimpArgs false
set_option linter.unusedVariables false
abbrev MOST : Nat := 4611686018427387904
def decS (a : Nat) (c : UInt8) : Nat := a * 10 + (c.toNat - 48)
def decV (l : List UInt8) : Nat := l.foldl decS 0
def numV (d : List UInt8) : Nat := if decV d ≤ MOST then decV d else MOST + 1
def numBad (d : List UInt8) : Bool := d == [] || (decide (1 < d.length) && d.head? == some 48)
def timesV (n u : Nat) : Nat := if MOST / u < n then MOST + 1 else n * u
def addV (t x : Nat) : Nat := if MOST < t ∨ MOST - t < x then MOST + 1 else t + x
def UW : List (List UInt8) := [[119], [100], [104], [109], [115], [109, 115], [117, 115], [110, 115]]
def US : List Nat := [604800000000000, 86400000000000, 3600000000000, 60000000000, 1000000000, 1000000, 1000, 1]
/-- The first unit from a place on with a word; 8: none. -/
def findU (w : List UInt8) : Nat → Nat → Nat
  | _, 0 => 8
  | k, n + 1 => if UW[k]? = some w then k else findU w (k + 1) n
def findW (next : Nat) (w : List UInt8) : Nat := findU w next (8 - next)
def ageGo : Nat → List UInt8 → Nat → Nat → Option Nat
  | 0, _, _, _ => none
  | f + 1, t, next, tot =>
    if t = [] then some tot
    else if numBad (t.takeWhile digitB) then none
    else if 8 ≤ findW next ((t.dropWhile digitB).takeWhile letterB) then none
    else ageGo f ((t.dropWhile digitB).dropWhile letterB) (findW next ((t.dropWhile digitB).takeWhile letterB) + 1)
      (addV tot (timesV (numV (t.takeWhile digitB)) (US.getD (findW next ((t.dropWhile digitB).takeWhile letterB)) 1)))
def ageR (t : List UInt8) : Int × Int :=
  if t = [] then (0, 9) else match ageGo (t.length + 1) t 0 0 with
    | none => (0, 9)
    | some tot => if MOST < tot then (0, 7) else (tot, 0)
theorem decV_append (a b : List UInt8) : decV (a ++ b) = b.foldl decS (decV a) := by rw [decV, List.foldl_append]; rfl
theorem decS_le : ∀ (b : List UInt8) (a : Nat), a ≤ b.foldl decS a
  | [], a => Nat.le_refl _
  | c :: b, a => by
    have := decS_le b (decS a c)
    simp only [List.foldl_cons]
    have h2 : a ≤ decS a c := by unfold decS; omega
    omega
theorem decV_take {d : List UInt8} {i : Nat} {c : UInt8} (h : d[i]? = some c) : decV (d.take (i + 1)) = decV (d.take i) * 10 + (c.toNat - 48) := by
  rw [List.take_add_one, h, decV_append]; rfl
theorem decV_over {d : List UInt8} (i : Nat) (h : MOST < decV (d.take i)) : numV d = MOST + 1 := by
  have e : decV d = (d.drop i).foldl decS (decV (d.take i)) := by rw [← decV_append, List.take_append_drop]
  have := decS_le (d.drop i) (decV (d.take i))
  rw [numV, if_neg (by omega)]
theorem numV_le (d : List UInt8) : numV d ≤ MOST + 1 := by unfold numV; split <;> omega
theorem addV_le (t x : Nat) : addV t x ≤ MOST + 1 := by unfold addV; split <;> omega
theorem timesV_le (n u : Nat) (hu : 0 < u) : timesV n u ≤ MOST + 1 := by
  unfold timesV; split
  · omega
  · rename_i h
    have : n * u ≤ MOST := Nat.le_trans (Nat.mul_le_mul_right u (Nat.le_of_not_lt h)) (Nat.div_mul_le_self _ _)
    omega
theorem tw_app {p : UInt8 → Bool} : ∀ {a b : List UInt8}, (∀ c ∈ a, p c = true) → (∀ c, b.head? = some c → p c = false) → (a ++ b).takeWhile p = a ∧ (a ++ b).dropWhile p = b
  | [], [], _, _ => ⟨rfl, rfl⟩
  | [], c :: b, _, hb => by
    have := hb c rfl
    simp [List.takeWhile_cons, List.dropWhile_cons, this]
  | c :: a, b, ha, hb => by
    have h1 := ha c (List.mem_cons_self ..)
    have := tw_app (a := a) (b := b) (fun x hx => ha x (List.mem_cons_of_mem _ hx)) hb
    simp [List.takeWhile_cons, List.dropWhile_cons, h1, this.1, this.2]
/-! ### The decimal numeral -/
theorem head_app {a b : List UInt8} (h : a ≠ []) : (a ++ b).head? = a.head? := by
  cases a with
  | nil => exact absurd rfl h
  | cons x t => rfl
theorem d48 (n : Nat) (h : n < 10) : (UInt8.ofNat (48 + n)).toNat = 48 + n := by
  rw [UInt8.toNat_ofNat']; omega
theorem dec_digits (u : Nat) : ∀ c ∈ Lib.decDigits u, digitB c = true := by
  induction u using Nat.strongRecOn with
  | _ u ih =>
    by_cases h : u < 10
    · rw [Lib.decDigits, dif_pos h]
      intro c hc
      rw [List.mem_singleton.1 hc, digitB, d48 u h]
      simp; omega
    · rw [Lib.decDigits, dif_neg h]
      intro c hc
      rcases List.mem_append.1 hc with hc | hc
      · exact ih (u / 10) (by omega) c hc
      · rw [List.mem_singleton.1 hc, digitB, d48 (u % 10) (by omega)]
        simp; omega
theorem dec_ne (u : Nat) : Lib.decDigits u ≠ [] := by
  by_cases h : u < 10
  · rw [Lib.decDigits, dif_pos h]; simp
  · rw [Lib.decDigits, dif_neg h]; simp
theorem dec_val (u : Nat) : decV (Lib.decDigits u) = u := by
  induction u using Nat.strongRecOn with
  | _ u ih =>
    by_cases h : u < 10
    · rw [Lib.decDigits, dif_pos h]
      simp only [decV, List.foldl_cons, List.foldl_nil, decS, d48 u h]; omega
    · rw [Lib.decDigits, dif_neg h, decV_append, ih (u / 10) (by omega)]
      simp only [List.foldl_cons, List.foldl_nil, decS, d48 (u % 10) (by omega)]; omega
theorem dec_head (u : Nat) (h0 : 0 < u) : (Lib.decDigits u).head? ≠ some 48 := by
  induction u using Nat.strongRecOn with
  | _ u ih =>
    by_cases h : u < 10
    · rw [Lib.decDigits, dif_pos h]
      intro e
      have e2 := congrArg UInt8.toNat (Option.some.inj e)
      rw [d48 u h] at e2
      have : (48 : UInt8).toNat = 48 := rfl
      omega
    · rw [Lib.decDigits, dif_neg h, head_app (dec_ne _)]
      exact ih (u / 10) (by omega) (by omega)
theorem dec_good (u : Nat) (h0 : 0 < u) : numBad (Lib.decDigits u) = false := by
  have h1 := dec_ne u; have h2 := dec_head u h0
  unfold numBad
  simp [h1, h2]
/-! ### What is printed is read -/
def prA : List (List UInt8 × Nat) → Nat → List UInt8
  | [], _ => []
  | (w, u) :: l, n => if 0 < n / u then Lib.decDigits (n / u) ++ (w ++ prA l (n % u)) else prA l n
def UA : List (List UInt8 × Nat) := UW.zip US
theorem prA_head : ∀ (l : List (List UInt8 × Nat)) (n : Nat) (c : UInt8), (prA l n).head? = some c → digitB c = true
  | [], n, c, h => by cases h
  | (w, u) :: l, n, c, h => by
    rw [prA] at h
    split at h
    · rw [head_app (dec_ne _)] at h
      exact dec_digits _ c (List.mem_of_mem_head? (by rw [h]; rfl))
    · exact prA_head l n c h
theorem digit_letter {c : UInt8} (h : digitB c = true) : letterB c = false := by
  unfold digitB at h; unfold letterB
  simp at h ⊢; omega
theorem letter_digit {c : UInt8} (h : letterB c = true) : digitB c = false := by
  cases e : digitB c with
  | false => rfl
  | true => rw [digit_letter e] at h; cases h
theorem unit_at {i : Nat} (h : i < 8) : ∃ w u, UW[i]? = some w ∧ US.getD i 1 = u ∧ 0 < u ∧ u ≤ 604800000000000 ∧ w ≠ [] ∧ (∀ c ∈ w, letterB c = true) ∧ UA.drop i = (w, u) :: UA.drop (i + 1) ∧ (i = 7 → u = 1) ∧ ∀ k ≤ i, findW k w = i := by
  match i, h with
  | 0, _ => exact ⟨_, _, rfl, rfl, by decide, by decide, by decide, by decide, rfl, by decide, by decide⟩
  | 1, _ => exact ⟨_, _, rfl, rfl, by decide, by decide, by decide, by decide, rfl, by decide, by decide⟩
  | 2, _ => exact ⟨_, _, rfl, rfl, by decide, by decide, by decide, by decide, rfl, by decide, by decide⟩
  | 3, _ => exact ⟨_, _, rfl, rfl, by decide, by decide, by decide, by decide, rfl, by decide, by decide⟩
  | 4, _ => exact ⟨_, _, rfl, rfl, by decide, by decide, by decide, by decide, rfl, by decide, by decide⟩
  | 5, _ => exact ⟨_, _, rfl, rfl, by decide, by decide, by decide, by decide, rfl, by decide, by decide⟩
  | 6, _ => exact ⟨_, _, rfl, rfl, by decide, by decide, by decide, by decide, rfl, by decide, by decide⟩
  | 7, _ => exact ⟨_, _, rfl, rfl, by decide, by decide, by decide, by decide, rfl, by decide, by decide⟩
theorem age_back : ∀ (m i next tot n fu : Nat), i + m = 8 → next ≤ i → (m = 0 → n = 0) → tot + n ≤ MOST → (prA (UA.drop i) n).length < fu → ageGo fu (prA (UA.drop i) n) next tot = some (tot + n)
  | 0, i, next, tot, n, fu, hi, _, h0, _, hf => by
    obtain rfl : i = 8 := by omega
    rw [h0 rfl] at hf ⊢
    obtain ⟨f, rfl⟩ : ∃ f, fu = f + 1 := ⟨fu - 1, by omega⟩
    rfl
  | m + 1, i, next, tot, n, fu, hi, hnx, _, hm, hf => by
    obtain ⟨w, u, hw, hu, h0u, hub, hwn, hwl, hd, h7, hfind⟩ := unit_at (i := i) (by omega)
    rw [hd, prA] at hf ⊢
    by_cases hk : 0 < n / u
    · rw [if_pos hk] at hf ⊢
      have t1 : ∀ c, (w ++ prA (UA.drop (i + 1)) (n % u)).head? = some c → digitB c = false := by
        intro c hc
        rw [head_app hwn] at hc
        exact letter_digit (hwl c (List.mem_of_mem_head? (by rw [hc]; rfl)))
      have t2 : ∀ c, (prA (UA.drop (i + 1)) (n % u)).head? = some c → letterB c = false := fun c hc => digit_letter (prA_head _ _ _ hc)
      obtain ⟨f, rfl⟩ : ∃ f, fu = f + 1 := ⟨fu - 1, by omega⟩
      have hne : Lib.decDigits (n / u) ++ (w ++ prA (UA.drop (i + 1)) (n % u)) ≠ [] := by
        intro e; exact dec_ne _ (List.append_eq_nil_iff.1 e).1
      rw [ageGo, if_neg hne, (tw_app (dec_digits (n / u)) t1).1, (tw_app (dec_digits (n / u)) t1).2, (tw_app hwl t2).1, (tw_app hwl t2).2, dec_good _ hk, if_neg (by decide), hfind next hnx, if_neg (by omega), hu]
      have hq : n / u * u ≤ n := Nat.div_mul_le_self _ _
      have hqm : n / u * u + n % u = n := by rw [Nat.mul_comm]; exact Nat.div_add_mod n u
      have hle : n / u ≤ MOST / u := Nat.div_le_div_right (by omega)
      have hnq : n / u ≤ n := Nat.div_le_self _ _
      have e1 : addV tot (timesV (numV (Lib.decDigits (n / u))) u) = tot + n / u * u := by
        rw [numV, dec_val, if_pos (by omega), timesV, if_neg (by omega), addV, if_neg (by omega)]
      rw [e1, age_back m (i + 1) (i + 1) _ _ f (by omega) (Nat.le_refl _) (fun hm0 => by rw [h7 (by omega)]; exact Nat.mod_one n) (by omega) (by
        simp only [List.length_append] at hf
        have : 0 < (Lib.decDigits (n / u)).length := List.length_pos_iff.2 (dec_ne _)
        omega)]
      congr 1; omega
    · rw [if_neg hk] at hf ⊢
      exact age_back m (i + 1) next tot n fu (by omega) (by omega) (fun hm0 => by
        rw [h7 (by omega), Nat.div_one] at hk; omega) hm hf
def ageP (n : Nat) : List UInt8 := if n = 0 then [48, 115] else prA UA n
theorem age_round (n : Nat) (h : n ≤ MOST) : ageR (ageP n) = ((n : Int), 0) := by
  unfold ageP
  split
  · rename_i h0; rw [h0]; rfl
  · rename_i h0
    have hb := age_back 8 0 0 0 n ((prA UA n).length + 1) rfl (Nat.le_refl _) (by omega) (by omega) (Nat.lt_succ_self _)
    rw [List.drop_zero, Nat.zero_add] at hb
    have hne : prA UA n ≠ [] := by
      intro e
      rw [e] at hb
      have : ageGo ([] : List UInt8).length.succ [] 0 0 = some 0 := rfl
      rw [show ([] : List UInt8).length + 1 = ([] : List UInt8).length.succ from rfl, this] at hb
      injection hb with hb; omega
    rw [ageR, if_neg hne, hb]
    simp only
    rw [if_neg (by omega)]
/-! ### The two readers agree -/
def lowB (c : UInt8) : Bool := decide (97 ≤ c.toNat ∧ c.toNat ≤ 122)
theorem findU_none (w : List UInt8) : ∀ (n k : Nat), (∀ j : Nat, UW[j]? ≠ some w) → findU w k n = 8
  | 0, k, _ => rfl
  | n + 1, k, h => by rw [findU, if_neg (h k), findU_none w n (k + 1) h]
theorem unit_low : ∀ i < 8, ∀ c ∈ UW.getD i [], lowB c = true := by decide
theorem upper_none {w : List UInt8} {c : UInt8} (hc : c ∈ w) (hl : lowB c = false) (k : Nat) : findW k w = 8 := by
  refine findU_none w _ k fun j hj => ?_
  have hj8 : j < 8 := (List.getElem?_eq_some_iff.1 hj).1
  have := unit_low j hj8 c (by rw [List.getD_eq_getElem?_getD, hj]; exact hc)
  rw [this] at hl; cases hl
theorem low_letter {c : UInt8} (h : lowB c = true) : letterB c = true := by
  unfold lowB at h; unfold letterB
  rw [h]; simp
/-- What small letters take is what letters take, or a great letter comes next. -/
theorem low_word : ∀ (t : List UInt8), (t.takeWhile letterB = t.takeWhile lowB ∧ t.dropWhile letterB = t.dropWhile lowB) ∨ (∃ X r, t.dropWhile lowB = X :: r ∧ letterB X = true ∧ X ∈ t.takeWhile letterB ∧ lowB X = false)
  | [] => .inl ⟨rfl, rfl⟩
  | c :: t => by
    cases hc : lowB c with
    | true =>
      have h1 := low_letter hc
      simp only [List.takeWhile_cons, List.dropWhile_cons, hc, h1, if_true]
      rcases low_word t with h | ⟨X, r, h2, h3, h4, h5⟩
      · exact .inl ⟨by rw [h.1], h.2⟩
      · exact .inr ⟨X, r, h2, h3, List.mem_cons_of_mem _ h4, h5⟩
    | false =>
      cases h1 : letterB c with
      | true => exact .inr ⟨c, t, by simp [List.dropWhile_cons, hc], h1, by simp [List.takeWhile_cons, h1], hc⟩
      | false => exact .inl ⟨by simp [List.takeWhile_cons, hc, h1], by simp [List.dropWhile_cons, hc, h1]⟩
theorem dropWhile_len {p : UInt8 → Bool} : ∀ (t : List UInt8), (t.dropWhile p).length ≤ t.length
  | [] => Nat.le_refl _
  | c :: t => by
    rw [List.dropWhile_cons]; split
    · have := dropWhile_len (p := p) t; simp only [List.length_cons]; omega
    · exact Nat.le_refl _
theorem dropWhile_lt {p : UInt8 → Bool} {t : List UInt8} (h : t.takeWhile p ≠ []) : (t.dropWhile p).length < t.length := by
  cases t with
  | nil => exact absurd rfl h
  | cons c t =>
    cases hc : p c with
    | true => simp only [List.dropWhile_cons, hc, if_true, List.length_cons]; have := dropWhile_len (p := p) t; omega
    | false => simp [List.takeWhile_cons, hc] at h
/-- A round of the second reader, told by the first one's. -/
theorem age_round2 {f : Nat} {t : List UInt8} {next tot k : Nat} (hf : t.length < f + 1) (ht : t ≠ []) (hb : numBad (t.takeWhile digitB) = false) (hk : UW[k]? = some ((t.dropWhile digitB).takeWhile lowB)) (hkn : next ≤ k) :
    ageGo (f + 1) t next tot = ageGo f ((t.dropWhile digitB).dropWhile lowB) (k + 1) (addV tot (timesV (numV (t.takeWhile digitB)) (US.getD k 1))) := by
  have hk8 : k < 8 := (List.getElem?_eq_some_iff.1 hk).1
  rw [ageGo, if_neg ht, hb, if_neg (by decide)]
  rcases low_word (t.dropWhile digitB) with h | ⟨X, r, h2, h3, h4, h5⟩
  · rw [h.1, h.2]
    obtain ⟨w, u, hw, hu, _, _, _, _, _, _, hfind⟩ := unit_at hk8
    rw [hw] at hk
    rw [← Option.some.inj hk, hfind next hkn, if_neg (by omega)]
  · rw [upper_none h4 h5, if_pos (by omega), h2]
    have hd : t.takeWhile digitB ≠ [] := by intro e; rw [e] at hb; cases hb
    have hlt := dropWhile_lt hd
    have hle := dropWhile_len (p := lowB) (t.dropWhile digitB)
    rw [h2] at hle
    simp only [List.length_cons] at hle
    obtain ⟨f', rfl⟩ : ∃ f', f = f' + 1 := ⟨f - 1, by omega⟩
    rw [ageGo, if_neg (by simp), show (X :: r).takeWhile digitB = [] by simp [List.takeWhile_cons, letter_digit h3]]
    rfl
theorem age_bad1 {f : Nat} {t : List UInt8} {next tot : Nat} (ht : t ≠ []) (hb : numBad (t.takeWhile digitB) = true) : ageGo f t next tot = none := by
  cases f with
  | zero => rfl
  | succ f => rw [ageGo, if_neg ht, hb, if_pos rfl]
theorem findW_ge (w : List UInt8) : ∀ (n k : Nat), k + n = 8 → findU w k n = 8 ∨ (k ≤ findU w k n ∧ UW[findU w k n]? = some w)
  | 0, k, _ => .inl rfl
  | n + 1, k, h => by
    rw [findU]; split
    · rename_i h1; exact .inr ⟨Nat.le_refl _, h1⟩
    · rcases findW_ge w n (k + 1) (by omega) with h1 | ⟨h1, h2⟩
      · exact .inl h1
      · exact .inr ⟨by omega, h2⟩
/-- The second reader's word is of no unit, or of one that has been. -/
theorem age_bad2 {f : Nat} {t : List UInt8} {next tot : Nat} (hn : next ≤ 8) (ht : t ≠ []) (hk : ∀ k, next ≤ k → UW[k]? ≠ some ((t.dropWhile digitB).takeWhile lowB)) : ageGo f t next tot = none := by
  cases f with
  | zero => rfl
  | succ f =>
    rw [ageGo, if_neg ht]
    split
    · rfl
    · rw [if_pos]
      rcases low_word (t.dropWhile digitB) with h | ⟨X, r, h2, h3, h4, h5⟩
      · rw [h.1]
        rcases findW_ge ((t.dropWhile digitB).takeWhile lowB) (8 - next) next (by omega) with h1 | ⟨h1, h2⟩
        · exact Nat.le_of_eq h1.symm
        · exact absurd h2 (hk _ h1)
      · rw [upper_none h4 h5]; exact Nat.le_refl _
end Go.Pw
