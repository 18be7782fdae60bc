import Derived.Test.YtodafniobppglaaDoorAgesR3
import Derived.Test.YtodafniobppglaaDoorAgesL
namespace Go.Pw
open Go Go.RowKit Go.Proofs
set_option maxRecDepth 100000
set_option linter.unusedSimpArgs false
set_option linter.unusedVariables false
def unitOf (r : List UInt8) : Option Nat :=
  if r = [] then some 1 else if r = [98] then some 1 else if r = [107] then some 1024 else if r = [77] then some 1048576 else if r = [71] then some 1073741824 else if r = [84] then some 1099511627776 else none
def fracV (u : Nat) : List UInt8 → Nat
  | [] => 0
  | c :: f => (fracV u f + (c.toNat - 48) * u) / 10
theorem fracV_le {u : Nat} : ∀ {f : List UInt8}, (∀ c ∈ f, digitB c = true) → fracV u f ≤ u
  | [], _ => Nat.zero_le _
  | c :: f, h => by
    have h1 := fracV_le (u := u) (f := f) fun x hx => h x (List.mem_cons_of_mem _ hx)
    obtain ⟨x, hx, hx9⟩ := digit_val (h c (List.mem_cons_self ..))
    rw [fracV, hx, show 48 + x - 48 = x by omega]
    have : x * u ≤ 9 * u := Nat.mul_le_mul_right _ hx9
    omega
def sizeC (d f : List UInt8) (u : Nat) : Int × Int := if MOST - fracV u f < timesV (numV d) u then (0, 7) else (((timesV (numV d) u + fracV u f : Nat) : Int), 0)
def sizeFin (d f r : List UInt8) : Int × Int := match unitOf r with
  | none => (0, 9)
  | some u => sizeC d f u
def sizeN (s : List UInt8) : Int × Int :=
  if numBad (s.takeWhile digitB) then (0, 9)
  else if (s.dropWhile digitB).head? = some 46 then
    (if (s.dropWhile digitB).tail.takeWhile digitB = [] then (0, 9) else sizeFin (s.takeWhile digitB) ((s.dropWhile digitB).tail.takeWhile digitB) ((s.dropWhile digitB).tail.dropWhile digitB))
  else sizeFin (s.takeWhile digitB) [] (s.dropWhile digitB)
def sufZ (c : UInt8) : Int := if c = 98 then 0 else if c = 107 then 1 else if c = 77 then 2 else if c = 71 then 3 else if c = 84 then 4 else -1
def stripR (s : List UInt8) : Nat × List UInt8 := match s.getLast? with
  | none => (0, s)
  | some c => if sufZ c < 0 then (0, s) else ((sufZ c).toNat, s.dropLast)
def not46 (c : UInt8) : Bool := c != 46
def badR (w q : List UInt8) : Bool := (w == []) || (!w.all digitB) || (decide (1 < w.length) && w.head? == some 48) || (q != [] && ((q.tail == []) || (!q.tail.all digitB)))
def coreR (w p : List UInt8) (F : Nat) : Int × Int := if puB w || decide (MOST / F < puV w) then (0, 7) else if MOST - fracV F p < puV w * F then (0, 7) else (((puV w * F + fracV F p : Nat) : Int), 0)
def sizeT (u : Nat) (t : List UInt8) : Int × Int := if badR (t.takeWhile not46) (t.dropWhile not46) then (0, 9) else coreR (t.takeWhile not46) (t.dropWhile not46).tail (1024 ^ u)
def sizeR (s : List UInt8) : Int × Int := sizeT (stripR s).1 (stripR s).2
theorem core_eq (d f : List UInt8) {u : Nat} (hu : 0 < u) (hub : u ≤ 604800000000000) : coreR d f u = sizeC d f u := by
  have h := pu_num (d := d) hu hub
  have h' : (puB d || decide (MOST / u < puV d)) = decide (4611686018427387904 / u < numV d) := by
    rw [← h]
    congr 1
    exact decide_eq_decide.2 (by show 4611686018427387904 / u < puV d ↔ _; omega)
  unfold coreR sizeC
  rw [h']
  cases h2 : decide (4611686018427387904 / u < numV d) with
  | true =>
    rw [if_pos rfl, timesV, if_pos (of_decide_eq_true h2), if_pos (by omega)]
  | false =>
    obtain ⟨h3, h4, h5⟩ := times_fit hu h2
    rw [if_neg (by decide), h3, h5]
theorem suf_unit (c : UInt8) : (sufZ c < 0 ∧ unitOf [c] = none) ∨ (0 ≤ sufZ c ∧ sufZ c ≤ 4 ∧ unitOf [c] = some (1024 ^ (sufZ c).toNat) ∧ digitB c = false ∧ c ≠ 46) :=
  all_u8 (Q := fun c => (sufZ c < 0 ∧ unitOf [c] = none) ∨ (0 ≤ sufZ c ∧ sufZ c ≤ 4 ∧ unitOf [c] = some (1024 ^ (sufZ c).toNat) ∧ digitB c = false ∧ c ≠ 46)) (by decide +kernel) c
theorem unit_long (a b : UInt8) (r : List UInt8) : unitOf (a :: b :: r) = none := by simp [unitOf]
theorem pow_u {u : Nat} (h : u ≤ 4) : 0 < 1024 ^ u ∧ 1024 ^ u ≤ 1099511627776 := by
  match u, h with
  | 0, _ => decide
  | 1, _ => decide
  | 2, _ => decide
  | 3, _ => decide
  | 4, _ => decide
theorem strip_le (s : List UInt8) : (stripR s).1 ≤ 4 := by
  unfold stripR
  split
  · exact Nat.zero_le _
  · rename_i c _
    split
    · exact Nat.zero_le _
    · rcases suf_unit c with h | h
      · omega
      · show (sufZ c).toNat ≤ 4; omega
theorem strip_app (d : List UInt8) {x : List UInt8} (hx : x ≠ []) : stripR (d ++ x) = ((stripR x).1, d ++ (stripR x).2) := by
  obtain ⟨c, hc⟩ : ∃ c, x.getLast? = some c := by
    cases h : x.getLast? with
    | none => exact absurd (List.getLast?_eq_none_iff.1 h) hx
    | some c => exact ⟨c, rfl⟩
  have h2 : (d ++ x).getLast? = some c := by rw [List.getLast?_append, hc]; rfl
  unfold stripR
  rw [hc, h2]
  simp only
  split
  · rfl
  · rw [List.dropLast_append_of_ne_nil hx]
theorem strip_digits {d : List UInt8} (h : ∀ c ∈ d, digitB c = true) : stripR d = (0, d) := by
  unfold stripR
  split
  · rfl
  · rename_i c hc
    have hd := h c (List.mem_of_getLast? hc)
    rw [if_pos]
    rcases suf_unit c with h | h
    · exact h.1
    · rw [h.2.2.2.1] at hd; cases hd
theorem dig46 {c : UInt8} (h : digitB c = true) : not46 c = true := by
  revert h
  exact all_u8 (Q := fun c => digitB c = true → not46 c = true) (by decide +kernel) c
theorem numBad_alt (d : List UInt8) : numBad d = ((d == []) || (decide (1 < d.length) && d.head? == some 48)) := rfl
theorem T_good (u : Nat) {d : List UInt8} (h : ∀ c ∈ d, digitB c = true) : sizeT u d = if numBad d then (0, 9) else coreR d [] (1024 ^ u) := by
  have e := tw_app (p := not46) (a := d) (b := []) (fun c hc => dig46 (h c hc)) (fun c hc => by cases hc)
  rw [List.append_nil] at e
  have ha : d.all digitB = true := List.all_eq_true.2 h
  unfold sizeT badR
  rw [e.1, e.2, ha, numBad_alt]
  simp
theorem T_dot (u : Nat) {d f : List UInt8} (h : ∀ c ∈ d, digitB c = true) (hf : ∀ c ∈ f, digitB c = true) : sizeT u (d ++ 46 :: f) = if numBad d then (0, 9) else if f = [] then (0, 9) else coreR d f (1024 ^ u) := by
  have e := tw_app (p := not46) (a := d) (b := 46 :: f) (fun c hc => dig46 (h c hc)) (fun c hc => by rw [← Option.some.inj hc]; rfl)
  have ha : d.all digitB = true := List.all_eq_true.2 h
  have hb : f.all digitB = true := List.all_eq_true.2 hf
  unfold sizeT badR
  rw [e.1, e.2, List.tail_cons, ha, hb, numBad_alt]
  cases f with
  | nil => simp
  | cons a f => simp
theorem T_bad1 (u : Nat) {d y : List UInt8} {c : UInt8} (h : ∀ c ∈ d, digitB c = true) (hc : c ≠ 46) (hd : digitB c = false) : sizeT u (d ++ c :: y) = (0, 9) := by
  have hn : not46 c = true := by unfold not46; simpa using hc
  have hm : c ∈ (d ++ c :: y).takeWhile not46 := by
    rw [List.takeWhile_append_of_pos (fun x hx => dig46 (h x hx)), List.takeWhile_cons, hn]
    simp
  unfold sizeT
  rw [if_pos]
  unfold badR
  have : ((d ++ c :: y).takeWhile not46).all digitB = false := by
    rw [Bool.eq_false_iff]
    intro ha
    have := List.all_eq_true.1 ha c hm
    rw [hd] at this; cases this
  rw [this]
  simp
theorem T_bad2 (u : Nat) {d f y : List UInt8} {c : UInt8} (h : ∀ c ∈ d, digitB c = true) (hd : digitB c = false) : sizeT u (d ++ 46 :: (f ++ c :: y)) = (0, 9) := by
  have e := tw_app (p := not46) (a := d) (b := 46 :: (f ++ c :: y)) (fun c hc => dig46 (h c hc)) (fun c hc => by rw [← Option.some.inj hc]; rfl)
  unfold sizeT
  rw [if_pos]
  unfold badR
  rw [e.1, e.2, List.tail_cons]
  have : (f ++ c :: y).all digitB = false := by
    rw [Bool.eq_false_iff]
    intro ha
    have := List.all_eq_true.1 ha c (by simp)
    rw [hd] at this; cases this
  rw [this]
  simp
theorem dw_head {p : UInt8 → Bool} {s : List UInt8} {c : UInt8} {r : List UInt8} (h : s.dropWhile p = c :: r) : p c = false := by
  have := List.head?_dropWhile_not p s
  rw [h] at this
  simpa using this
/-- What stands behind the digits, told by the second reader. -/
theorem tail_eq (d x : List UInt8) (hx : x ≠ []) (g : Nat → List UInt8 → Int × Int) (r : List UInt8) (hr : ∀ u t, g u t = sizeT u (d ++ t)) : sizeR (d ++ x) = g (stripR x).1 (stripR x).2 := by
  unfold sizeR
  rw [strip_app d hx, hr]
theorem size_eq (s : List UInt8) : sizeN s = sizeR s := by
  have hs : s.takeWhile digitB ++ s.dropWhile digitB = s := List.takeWhile_append_dropWhile
  have hD : ∀ c ∈ s.takeWhile digitB, digitB c = true := fun c hc => tw_mem hc
  unfold sizeN
  generalize hd : s.takeWhile digitB = d at hs hD
  cases hr : s.dropWhile digitB with
  | nil =>
    rw [hr, List.append_nil] at hs
    subst hs
    unfold sizeR
    rw [strip_digits hD, T_good 0 hD, core_eq d [] (by decide) (by decide)]
    simp [sizeFin, unitOf]
  | cons c r =>
    have hcd := dw_head hr
    rw [hr] at hs
    rw [List.head?_cons]
    by_cases hc : c = 46
    · subst hc
      rw [if_pos rfl, List.tail_cons]
      have hF : ∀ c ∈ r.takeWhile digitB, digitB c = true := fun c hc => tw_mem hc
      have hr' : r.takeWhile digitB ++ r.dropWhile digitB = r := List.takeWhile_append_dropWhile
      generalize hf : r.takeWhile digitB = f at hr' hF
      cases hq : r.dropWhile digitB with
      | nil =>
        rw [hq, List.append_nil] at hr'
        subst hr'
        have e : sizeR s = sizeT 0 (d ++ 46 :: f) := by
          unfold sizeR
          rw [← hs, strip_app d (by simp), show (46 :: f : List UInt8) = [46] ++ f from rfl]
          cases f with
          | nil => rfl
          | cons a f => rw [strip_app [46] (by simp), strip_digits hF]
        rw [e, T_dot 0 hD hF, core_eq d f (by decide) (by decide)]
        simp [sizeFin, unitOf]
      | cons a y =>
        have had := dw_head hq
        rw [hq] at hr'
        have e0 : s = (d ++ 46 :: f) ++ (a :: y) := by rw [← hs, ← hr']; simp
        cases y with
        | nil =>
          rcases suf_unit a with ⟨h1, h2⟩ | ⟨h1, h2, h3, h4, h5⟩
          · have e : sizeR s = (0, 9) := by
              unfold sizeR
              rw [e0, strip_app _ (by simp), show stripR [a] = (0, [a]) by simp [stripR, h1]]
              rw [show d ++ 46 :: f ++ [a] = d ++ 46 :: (f ++ a :: []) by simp]
              exact T_bad2 0 hD had
            rw [e]
            simp [sizeFin, h2]
          · have e : sizeR s = sizeT (sufZ a).toNat (d ++ 46 :: f) := by
              unfold sizeR
              rw [e0, strip_app _ (by simp), show stripR [a] = ((sufZ a).toNat, []) by simp [stripR, show ¬ sufZ a < 0 by omega], List.append_nil]
            have hp := pow_u (u := (sufZ a).toNat) (by omega)
            rw [e, T_dot _ hD hF, core_eq d f hp.1 (by omega)]
            simp [sizeFin, h3]
        | cons b y =>
          have e : sizeR s = (0, 9) := by
            unfold sizeR
            rw [e0, strip_app _ (by simp)]
            have e1 : (stripR (a :: b :: y)).2 = a :: (stripR (b :: y)).2 := by
              rw [show (a :: b :: y : List UInt8) = [a] ++ (b :: y) from rfl, strip_app [a] (by simp)]; rfl
            rw [e1, show d ++ 46 :: f ++ a :: (stripR (b :: y)).2 = d ++ 46 :: (f ++ a :: (stripR (b :: y)).2) by simp]
            exact T_bad2 _ hD had
          rw [e]
          simp [sizeFin, unit_long]
    · rw [if_neg (show ¬ some c = some (46 : UInt8) by simpa using hc)]
      have e0 : s = d ++ c :: r := hs.symm
      cases r with
      | nil =>
        rcases suf_unit c with ⟨h1, h2⟩ | ⟨h1, h2, h3, h4, h5⟩
        · have e : sizeR s = (0, 9) := by
            unfold sizeR
            rw [e0, strip_app _ (by simp), show stripR [c] = (0, [c]) by simp [stripR, h1]]
            exact T_bad1 0 hD hc hcd
          rw [e]
          simp [sizeFin, h2]
        · have e : sizeR s = sizeT (sufZ c).toNat d := by
            unfold sizeR
            rw [e0, strip_app _ (by simp), show stripR [c] = ((sufZ c).toNat, []) by simp [stripR, show ¬ sufZ c < 0 by omega], List.append_nil]
          have hp := pow_u (u := (sufZ c).toNat) (by omega)
          rw [e, T_good _ hD, core_eq d [] hp.1 (by omega)]
          simp [sizeFin, h3]
      | cons b y =>
        have e : sizeR s = (0, 9) := by
          unfold sizeR
          rw [e0, strip_app _ (by simp)]
          have e1 : (stripR (c :: b :: y)).2 = c :: (stripR (b :: y)).2 := by
            rw [show (c :: b :: y : List UInt8) = [c] ++ (b :: y) from rfl, strip_app [c] (by simp)]; rfl
          rw [e1]
          exact T_bad1 _ hD hc hcd
        rw [e]
        simp [sizeFin, unit_long]
/-! ### Printing -/
def UL : List (Nat × UInt8) := [(1099511627776, 84), (1073741824, 71), (1048576, 77), (1024, 107)]
def prL : List (Nat × UInt8) → Nat → List UInt8
  | [], n => Lib.decDigits n
  | (u, c) :: l, n => if 0 < n ∧ n % u = 0 then Lib.decDigits (n / u) ++ [c] else prL l n
def sizeS (n : Int) : List UInt8 × Int := if n < 0 ∨ 4611686018427387904 < n then ([], 7) else (prL UL n.toNat, 0)
theorem size_back_c {k u : Nat} {c : UInt8} (hk : 0 < k) (hu : 0 < u) (hc : unitOf [c] = some u) (hd : digitB c = false) (h46 : c ≠ 46) (hm : k * u ≤ MOST) : sizeN (Lib.decDigits k ++ [c]) = (((k * u : Nat) : Int), 0) := by
  have e := tw_app (p := digitB) (a := Lib.decDigits k) (b := [c]) (dec_digits k) (fun x hx => by rw [← Option.some.inj hx]; exact hd)
  have hku : k ≤ k * u := Nat.le_mul_of_pos_right k hu
  have hle : ¬ MOST / u < k := by
    have := (Nat.le_div_iff_mul_le hu).2 hm
    omega
  unfold sizeN
  have e1 : numV (Lib.decDigits k) = k := by rw [numV, dec_val, if_pos (by omega)]
  have e2 : timesV k u = k * u := by rw [timesV, if_neg hle]
  rw [e.1, e.2, dec_good k hk, if_neg (by decide), List.head?_cons, if_neg (show ¬ some c = some (46 : UInt8) by simpa using h46), sizeFin, hc]
  simp only [sizeC, fracV, e1, e2]
  rw [if_neg (by omega), Nat.add_zero]
theorem size_back_0 (n : Nat) (hm : n ≤ MOST) : sizeN (Lib.decDigits n) = ((n : Int), 0) := by
  have e := tw_app (p := digitB) (a := Lib.decDigits n) (b := []) (dec_digits n) (fun x hx => by cases hx)
  rw [List.append_nil] at e
  have hb : numBad (Lib.decDigits n) = false := by
    rcases Nat.eq_zero_or_pos n with h | h
    · subst h; decide +kernel
    · exact dec_good n h
  unfold sizeN
  rw [e.1, e.2, hb, if_neg (by decide), List.head?_nil, if_neg (by decide), sizeFin, show unitOf [] = some 1 from rfl]
  have e1 : numV (Lib.decDigits n) = n := by rw [numV, dec_val, if_pos hm]
  have e2 : timesV n 1 = n := by rw [timesV, if_neg (by rw [Nat.div_one]; omega), Nat.mul_one]
  simp only [sizeC, fracV, e1, e2]
  rw [if_neg (by omega), Nat.add_zero]
theorem prL_back (n : Nat) (hm : n ≤ MOST) : ∀ (l : List (Nat × UInt8)), (∀ x ∈ l, 0 < x.1 ∧ unitOf [x.2] = some x.1 ∧ digitB x.2 = false ∧ x.2 ≠ 46) → sizeN (prL l n) = ((n : Int), 0)
  | [], _ => size_back_0 n hm
  | (u, c) :: l, h => by
    obtain ⟨h1, h2, h3, h4⟩ := h (u, c) (List.mem_cons_self ..)
    rw [prL]
    split
    · rename_i hn
      have hq : n / u * u = n := Nat.div_mul_cancel (Nat.dvd_of_mod_eq_zero hn.2)
      have hp : 0 < n / u := Nat.pos_of_ne_zero (fun e => by rw [e] at hq; omega)
      rw [size_back_c hp h1 h2 h3 h4 (by rw [hq]; exact hm), hq]
    · exact prL_back n hm l fun x hx => h x (List.mem_cons_of_mem _ hx)
theorem size_law {n : Int} (h : (sizeS n).2 = 0) : sizeN (sizeS n).1 = (n, 0) := by
  unfold sizeS at h ⊢
  split at h
  · cases h
  · rename_i hn
    rw [if_neg hn]
    simp only
    rw [prL_back n.toNat (by show n.toNat ≤ 4611686018427387904; omega) UL (by decide), Int.toNat_of_nonneg (by omega)]
theorem prL_len (n : Nat) (hm : n ≤ 4611686018427387904) : ∀ (l : List (Nat × UInt8)), (prL l n).length ≤ 20
  | [] => by have := dec_len20 hm; rw [prL]; omega
  | (u, c) :: l => by
    rw [prL]
    split
    · have := dec_len20 (div_le' n u hm); simp only [List.length_append, List.length_cons, List.length_nil]; omega
    · exact prL_len n hm l
theorem sizeS_len (n : Int) : (sizeS n).1.length ≤ 20 := by
  unfold sizeS
  split
  · exact Nat.zero_le _
  · exact prL_len n.toNat (by omega) UL
end Go.Pw
