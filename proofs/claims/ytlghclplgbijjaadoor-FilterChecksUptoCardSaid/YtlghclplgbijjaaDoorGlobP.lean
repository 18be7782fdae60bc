/- Own work: part of the proof of the row YtlghclplgbijjaaDoorRowFilterChecksUpto; no condition of its own. -/
import Derived.Test.YtlghclplgbijjaaDoorNames
import Derived.Test.YtlghclplgbijjaaDoorPwV
import Derived.Test.YtlghclplgbijjaaDoorGFacts
namespace Go.Pw
open Go Go.RowKit Go.Proofs
set_option maxRecDepth 100000
set_option linter.unusedSimpArgs false
set_option linter.unusedVariables false
inductive GPart where
  | mk (kind : Int) (text : List UInt8) (neg : Bool) (ranges : List (Int × Int)) (ways : List (List GPart))
namespace GPart
def kind : GPart → Int | .mk k _ _ _ _ => k
def text : GPart → List UInt8 | .mk _ t _ _ _ => t
def neg : GPart → Bool | .mk _ _ n _ _ => n
def ranges : GPart → List (Int × Int) | .mk _ _ _ r _ => r
def ways : GPart → List (List GPart) | .mk _ _ _ _ w => w
end GPart
abbrev rngPV (r : List (Int × Int)) : List (List PV) := r.map fun x => [pint x.1, pint x.2]
mutual
def encG : GPart → List PV
  | .mk k t n r w => [pint k, pstr t, pbool n, .ro false 2 (rngPV r), .ro false 1 (encW w)]
def encL : List GPart → List (List PV)
  | [] => []
  | g :: l => encG g :: encL l
def encW : List (List GPart) → List (List PV)
  | [] => []
  | l :: w => [.ro false 5 (encL l)] :: encW w
end
theorem encL_map : ∀ l : List GPart, encL l = l.map encG
  | [] => rfl
  | g :: l => by rw [encL, encL_map l]; rfl
theorem encW_map : ∀ w : List (List GPart), encW w = w.map fun l => [.ro false 5 (encL l)]
  | [] => rfl
  | l :: w => by rw [encW, encW_map w]; rfl
theorem encG_eq (g : GPart) : encG g = [pint g.kind, pstr g.text, pbool g.neg, .ro false 2 (rngPV g.ranges), .ro false 1 (encW g.ways)] := by
  cases g; rfl
theorem encL_len (l : List GPart) : (encL l).length = l.length := by rw [encL_map, List.length_map]
theorem encW_len (w : List (List GPart)) : (encW w).length = w.length := by rw [encW_map, List.length_map]
theorem encL_at {l : List GPart} {i : Nat} {g : GPart} (h : l[i]? = some g) : (encL l)[i]? = some (encG g) := by rw [encL_map, List.getElem?_map, h]; rfl
theorem encW_at {w : List (List GPart)} {i : Nat} {l : List GPart} (h : w[i]? = some l) : (encW w)[i]? = some [.ro false 5 (encL l)] := by rw [encW_map, List.getElem?_map, h]; rfl
def gW (g : GPart) : Nat := pvWs (encG g)
def lW (l : List GPart) : Nat := pvWss (encL l)
def wW (w : List (List GPart)) : Nat := pvWss (encW w)
theorem gW_eq (g : GPart) : gW g = 1 + ((g.text.length + 1) + (1 + ((pvWss (rngPV g.ranges) + 1) + ((wW g.ways + 1) + 0)))) := by
  rw [gW, encG_eq]
  simp only [pvWs, pvW, str_size, wW]
theorem lW_nil : lW [] = 0 := rfl
theorem lW_cons (g : GPart) (l : List GPart) : lW (g :: l) = gW g + lW l := by rw [lW, encL, pvWss]; rfl
theorem wW_cons (l : List GPart) (w : List (List GPart)) : wW (l :: w) = (lW l + 1) + wW w := by
  rw [wW, encW, pvWss]
  simp only [pvWs, pvW, lW, wW, Nat.add_zero]
theorem rng_len : ∀ r : List (Int × Int), r.length ≤ pvWss (rngPV r)
  | [] => Nat.le_refl _
  | x :: r => by
    have := rng_len r
    simp only [rngPV, List.map_cons, pvWss, pvWs, pvW, List.length_cons] at this ⊢
    omega
theorem lW_len : ∀ l : List GPart, 5 * l.length ≤ lW l
  | [] => Nat.le_refl _
  | g :: l => by
    have := lW_len l
    have := gW_eq g
    rw [lW_cons, List.length_cons]
    omega
theorem wW_len : ∀ w : List (List GPart), w.length ≤ wW w
  | [] => Nat.le_refl _
  | l :: w => by
    have := wW_len w
    rw [wW_cons, List.length_cons]
    omega
theorem lW_at : ∀ {l : List GPart} {i : Nat} {g : GPart}, l[i]? = some g → gW g ≤ lW l
  | [], _, _, h => by cases h
  | a :: l, 0, g, h => by obtain rfl := Option.some.inj h; rw [lW_cons]; omega
  | a :: l, i + 1, g, h => by
    have := lW_at (l := l) (i := i) (g := g) (by simpa using h)
    rw [lW_cons]; omega
theorem wW_at : ∀ {w : List (List GPart)} {i : Nat} {l : List GPart}, w[i]? = some l → lW l < wW w
  | [], _, _, h => by cases h
  | a :: w, 0, l, h => by obtain rfl := Option.some.inj h; rw [wW_cons]; omega
  | a :: w, i + 1, l, h => by
    have := wW_at (w := w) (i := i) (l := l) (by simpa using h)
    rw [wW_cons]; omega
theorem way_lt {l : List GPart} {i j : Nat} {g : GPart} {v : List GPart} (h : l[i]? = some g) (h2 : g.ways[j]? = some v) : lW v < lW l := by
  have h1 := lW_at h
  have h3 := wW_at h2
  have := gW_eq g
  omega
mutual
def cntG : GPart → Nat
  | .mk _ _ _ _ w => 1 + cntW w
def cntL : List GPart → Nat
  | [] => 0
  | g :: l => cntG g + cntL l
def cntW : List (List GPart) → Nat
  | [] => 0
  | l :: w => cntL l + cntW w
end
mutual
def deepG : GPart → Nat
  | .mk k _ _ _ w => deepW w + if k = 6 then 1 else 0
def deepL : List GPart → Nat
  | [] => 0
  | g :: l => max (deepG g) (deepL l)
def deepW : List (List GPart) → Nat
  | [] => 0
  | l :: w => max (deepL l) (deepW w)
end
theorem cntG_eq (g : GPart) : cntG g = 1 + cntW g.ways := by cases g; rw [cntG]; rfl
theorem deepG_eq (g : GPart) : deepG g = deepW g.ways + if g.kind = 6 then 1 else 0 := by cases g; rw [deepG]; rfl
theorem cntL_app : ∀ a b : List GPart, cntL (a ++ b) = cntL a + cntL b
  | [], b => by simp [cntL]
  | g :: a, b => by rw [List.cons_append, cntL, cntL_app a b, cntL]; omega
theorem cntW_app : ∀ a b : List (List GPart), cntW (a ++ b) = cntW a + cntW b
  | [], b => by simp [cntW]
  | g :: a, b => by rw [List.cons_append, cntW, cntW_app a b, cntW]; omega
theorem deepL_app : ∀ a b : List GPart, deepL (a ++ b) = max (deepL a) (deepL b)
  | [], b => by simp [deepL]
  | g :: a, b => by rw [List.cons_append, deepL, deepL_app a b, deepL]; omega
theorem deepW_app : ∀ a b : List (List GPart), deepW (a ++ b) = max (deepW a) (deepW b)
  | [], b => by simp [deepW]
  | g :: a, b => by rw [List.cons_append, deepW, deepW_app a b, deepW]; omega
theorem take_at {α : Type} {l : List α} {i : Nat} {x : α} (h : l[i]? = some x) : l.take (i + 1) = l.take i ++ [x] := by rw [List.take_add_one, h]; rfl
theorem cntL_take {l : List GPart} {i : Nat} {g : GPart} (h : l[i]? = some g) : cntL (l.take (i + 1)) = cntL (l.take i) + (1 + cntW g.ways) := by
  rw [take_at h, cntL_app, ← cntG_eq]; simp [cntL]
theorem cntW_take {w : List (List GPart)} {i : Nat} {l : List GPart} (h : w[i]? = some l) : cntW (w.take (i + 1)) = cntW (w.take i) + cntL l := by
  rw [take_at h, cntW_app]; simp [cntW]
theorem deepL_take {l : List GPart} {i : Nat} {g : GPart} (h : l[i]? = some g) : deepL (l.take (i + 1)) = max (deepL (l.take i)) (deepG g) := by
  rw [take_at h, deepL_app]; simp [deepL]
theorem deepW_take {w : List (List GPart)} {i : Nat} {l : List GPart} (h : w[i]? = some l) : deepW (w.take (i + 1)) = max (deepW (w.take i)) (deepL l) := by
  rw [take_at h, deepW_app]; simp [deepW]
mutual
theorem cntG_le : ∀ g : GPart, cntG g + deepG g ≤ gW g
  | .mk k t n r w => by
    have := cntW_le w
    rw [gW_eq, cntG, deepG]
    simp only [GPart.ways]
    split <;> omega
theorem cntL_le : ∀ l : List GPart, cntL l + deepL l ≤ lW l
  | [] => Nat.le_refl _
  | g :: l => by
    have := cntG_le g
    have := cntL_le l
    rw [lW_cons, cntL, deepL]; omega
theorem cntW_le : ∀ w : List (List GPart), cntW w + deepW w ≤ wW w
  | [] => Nat.le_refl _
  | l :: w => by
    have := cntL_le l
    have := cntW_le w
    rw [wW_cons, cntW, deepW]; omega
end
def formBad (g : GPart) : Bool :=
  let text := g.text != []
  let set := g.neg || decide (0 < g.ranges.length)
  let ways := decide (0 < g.ways.length)
  if g.kind = 1 then set || ways || !text || g.text.contains 0
  else if g.kind = 5 then text || ways || decide (g.ranges.length = 0)
  else if g.kind = 6 then text || set || !ways
  else text || set || ways
def rngBad (x : Int × Int) : Bool := decide (x.1 < 1) || decide (x.2 > 255) || decide (x.2 < x.1) || (decide (x.1 ≤ 47) && decide (x.2 ≥ 47))
def rngE : Option Int → List (Int × Int) → Int
  | _, [] => 0
  | p, x :: r => if rngBad x then 7 else if (match p with | some b => decide (x.1 ≤ b + 1) | none => false) then 10 else rngE (some x.2) r
mutual
def chkG : GPart → Int
  | .mk _ _ _ r w => if rngE none r ≠ 0 then rngE none r else chkW w
def chkL : Bool → List GPart → Int
  | _, [] => 0
  | pt, g :: l => if g.kind < 1 ∨ 6 < g.kind then 5 else if formBad g then 6 else if g.kind = 1 ∧ pt = true then 6 else if chkG g ≠ 0 then chkG g else chkL (decide (g.kind = 1)) l
def chkW : List (List GPart) → Int
  | [] => 0
  | l :: w => if chkL false l ≠ 0 then chkL false l else chkW w
end
def starB (g : GPart) : Bool := decide (g.kind = 3) || decide (g.kind = 4)
mutual
def stG : GPart → Bool
  | .mk _ _ _ _ w => stW w
def stL : Bool → List GPart → Bool
  | _, [] => false
  | ps, g :: l => (ps && starB g) || stG g || stL (starB g) l
def stW : List (List GPart) → Bool
  | [] => false
  | l :: w => stL false l || stW w
end
def escB (within : Bool) (c : UInt8) : Bool := ([92, 42, 63, 91, 93, 123, 125] : List UInt8).contains c || (within && c == 44)
def escT (p : UInt8 → Bool) : List UInt8 → List UInt8
  | [] => []
  | c :: t => (if p c then [92, c] else [c]) ++ escT p t
def bndB (c : UInt8) : Bool := ([92, 93, 94, 45] : List UInt8).contains c
def bnd (n : Int) : List UInt8 := escT bndB [UInt8.ofNat (n % 256).toNat]
def showR (x : Int × Int) : List UInt8 := bnd x.1 ++ ((if x.2 > x.1 + 1 then [45] else []) ++ (if x.2 > x.1 then bnd x.2 else []))
def showS (neg : Bool) (r : List (Int × Int)) : List UInt8 := [91] ++ ((if neg then [94] else []) ++ ((r.map showR).flatten ++ [93]))
mutual
def shG : Bool → GPart → List UInt8
  | within, .mk k t n r w =>
    if k = 1 then escT (escB within) t else if k = 2 then [63] else if k = 3 then [42] else if k = 4 then [42, 42] else if k = 5 then showS n r
    else if k = 6 then shW true w ++ [125] else []
def shL : Bool → List GPart → List UInt8
  | _, [] => []
  | within, g :: l => shG within g ++ shL within l
def shW : Bool → List (List GPart) → List UInt8
  | _, [] => []
  | first, l :: w => (if first then 123 else 44) :: (shL true l ++ shW false w)
end
def tbs (l : List UInt8) : Nat := (l.reverse.takeWhile (· == 92)).length
theorem tbs_snoc (l : List UInt8) (c : UInt8) : tbs (l ++ [c]) = if c = 92 then tbs l + 1 else 0 := by
  unfold tbs
  rw [List.reverse_append]
  simp only [List.reverse_cons, List.reverse_nil, List.nil_append, List.cons_append, List.takeWhile_cons]
  by_cases h : c = 92
  · subst h; simp
  · rw [if_neg h, show (c == 92) = false by simpa using h]; rfl
theorem escT_app (p : UInt8 → Bool) : ∀ a b : List UInt8, escT p (a ++ b) = escT p a ++ escT p b
  | [], b => rfl
  | c :: a, b => by rw [List.cons_append, escT, escT_app p a b, escT, List.append_assoc]
theorem escB_92 (w : Bool) : escB w 92 = true := by cases w <;> rfl
theorem escB_47 (w : Bool) : escB w 47 = false := by cases w <;> rfl
theorem snoc_cases {α : Type} (l : List α) : l = [] ∨ ∃ t c, l = t ++ [c] := by
  rcases l.eq_nil_or_concat with h | ⟨t, c, h⟩
  · exact .inl h
  · exact .inr ⟨t, c, by rw [h, List.concat_eq_append]⟩
theorem snoc_ind {α : Type} {Q : List α → Prop} (h0 : Q []) (h1 : ∀ t c, Q t → Q (t ++ [c])) (l : List α) : Q l := by
  have : Q l.reverse.reverse := by
    generalize l.reverse = r
    induction r with
    | nil => exact h0
    | cons c r ih => rw [List.reverse_cons]; exact h1 _ _ ih
  rwa [List.reverse_reverse] at this
theorem tbs_esc (w : Bool) (s : List UInt8) (hs : tbs s % 2 = 0) (t : List UInt8) : tbs (s ++ escT (escB w) t) % 2 = 0 := by
  refine snoc_ind (Q := fun t => tbs (s ++ escT (escB w) t) % 2 = 0) (by rw [escT, List.append_nil]; exact hs) (fun t c ih => ?_) t
  rw [escT_app, escT, escT, List.append_nil]
  by_cases h : escB w c = true
  · rw [if_pos h, show [92, c] = [92] ++ [c] from rfl, ← List.append_assoc, ← List.append_assoc, tbs_snoc]
    split
    · rw [tbs_snoc, if_pos rfl]; omega
    · rfl
  · rw [if_neg h, ← List.append_assoc, tbs_snoc]
    split
    · rename_i hc; rw [hc, escB_92] at h; exact absurd rfl h
    · rfl
theorem shL_app (w : Bool) : ∀ a b : List GPart, shL w (a ++ b) = shL w a ++ shL w b
  | [], b => by rw [List.nil_append, shL, List.nil_append]
  | g :: a, b => by rw [List.cons_append, shL, shL_app w a b, shL, List.append_assoc]
theorem shL_one (w : Bool) (g : GPart) : shL w [g] = shG w g := by rw [shL, shL, List.append_nil]
theorem shG_eq (w : Bool) (g : GPart) : shG w g = if g.kind = 1 then escT (escB w) g.text else if g.kind = 2 then [63] else if g.kind = 3 then [42] else if g.kind = 4 then [42, 42] else if g.kind = 5 then showS g.neg g.ranges else if g.kind = 6 then shW true g.ways ++ [125] else [] := by
  cases g; rw [shG]; rfl
theorem shG_end {w : Bool} {g : GPart} (h1 : ¬ g.kind = 1) (hk : 1 ≤ g.kind ∧ g.kind ≤ 6) : ∃ s c, shG w g = s ++ [c] ∧ c ≠ 92 ∧ c ≠ 47 := by
  rw [shG_eq, if_neg h1]
  by_cases h2 : g.kind = 2
  · rw [if_pos h2]; exact ⟨[], 63, rfl, by decide, by decide⟩
  rw [if_neg h2]
  by_cases h3 : g.kind = 3
  · rw [if_pos h3]; exact ⟨[], 42, rfl, by decide, by decide⟩
  rw [if_neg h3]
  by_cases h4 : g.kind = 4
  · rw [if_pos h4]; exact ⟨[42], 42, rfl, by decide, by decide⟩
  rw [if_neg h4]
  by_cases h5 : g.kind = 5
  · rw [if_pos h5]; exact ⟨[91] ++ ((if g.neg then [94] else []) ++ (g.ranges.map showR).flatten), 93, by simp [showS], by decide, by decide⟩
  rw [if_neg h5, if_pos (by omega)]
  exact ⟨_, 125, rfl, by decide, by decide⟩
def kindsOK (l : List GPart) : Prop := ∀ g ∈ l, 1 ≤ g.kind ∧ g.kind ≤ 6
theorem tbs_shL (w : Bool) : ∀ l : List GPart, kindsOK l → tbs (shL w l) % 2 = 0 := by
  intro l
  refine snoc_ind (Q := fun l => kindsOK l → tbs (shL w l) % 2 = 0) (fun _ => by rw [shL]; rfl) (fun l g ih hk => ?_) l
  have ih := ih fun x hx => hk x (by simp [hx])
  have hg := hk g (by simp)
  rw [shL_app, shL_one]
  by_cases h1 : g.kind = 1
  · rw [shG_eq, if_pos h1]
    exact tbs_esc w _ ih _
  · obtain ⟨s, c, e, h92, _⟩ := shG_end (w := w) h1 hg
    rw [e, ← List.append_assoc, tbs_snoc, if_neg h92]
def endsB (l : List GPart) : Bool := match l.getLast? with
  | some g => decide (g.kind = 1) && (g.text.getLast? == some 47)
  | none => false
theorem ends_yes {l : List GPart} (hk : kindsOK l) (h : endsB l = true) : ∃ s, shL false l = s ++ [47] ∧ tbs s % 2 = 0 := by
  rcases snoc_cases l with rfl | ⟨l, g, rfl⟩
  · simp [endsB] at h
  · simp only [endsB, List.getLast?_append, List.getLast?_singleton, Option.some_or, Bool.and_eq_true, decide_eq_true_eq, beq_iff_eq] at h
    obtain ⟨h1, h2⟩ := h
    rcases snoc_cases g.text with e | ⟨t, c, e⟩
    · rw [e] at h2; simp at h2
    · rw [e] at h2
      simp only [List.getLast?_append, List.getLast?_singleton, Option.some_or, Option.some.injEq] at h2
      subst h2
      refine ⟨shL false l ++ escT (escB false) t, ?_, tbs_esc false _ (tbs_shL false l fun x hx => hk x (by simp [hx])) t⟩
      rw [shL_app, shL_one, shG_eq, if_pos h1, e, escT_app, escT, escT, if_neg (by rw [escB_47]; decide), List.append_assoc]
      rfl
theorem esc_last (w : Bool) (t : List UInt8) (c : UInt8) : ∃ s, escT (escB w) (t ++ [c]) = s ++ [c] := by
  rw [escT_app, escT, escT, List.append_nil]
  split
  · exact ⟨escT (escB w) t ++ [92], by simp⟩
  · exact ⟨_, rfl⟩
theorem ends_no {l : List GPart} (hk : kindsOK l) (ht : ∀ g ∈ l, g.kind = 1 → g.text ≠ []) (h0 : l ≠ []) (h : endsB l = false) : ∃ s c, shL false l = s ++ [c] ∧ c ≠ 47 := by
  rcases snoc_cases l with rfl | ⟨l, g, rfl⟩
  · exact absurd rfl h0
  · have hg := hk g (by simp)
    rw [shL_app, shL_one]
    by_cases h1 : g.kind = 1
    · rcases snoc_cases g.text with e | ⟨t, c, e⟩
      · exact absurd e (ht g (by simp) h1)
      · obtain ⟨s, es⟩ := esc_last false t c
        refine ⟨shL false l ++ s, c, by rw [shG_eq, if_pos h1, e, es, List.append_assoc], ?_⟩
        rintro rfl
        simp [endsB, h1, e] at h
    · obtain ⟨s, c, e, _, h47⟩ := shG_end (w := false) h1 hg
      exact ⟨shL false l ++ s, c, by rw [e, List.append_assoc], h47⟩
def globT (rooted dirs : Bool) (l : List GPart) : List UInt8 :=
  let s := shL false l
  let s := if !dirs && endsB l then s.take (s.length - 1) ++ [92, 47] else s
  let s := if !rooted && (s.head? == some 47) then 92 :: s else s
  let s := if rooted then 47 :: s else s
  if dirs then s ++ [47] else s
def quotB (s : List UInt8) : Bool := decide (tbs (s.take (s.length - 1)) % 2 = 1)
def globR (rooted dirs : Bool) (l : List GPart) : List UInt8 :=
  let s := shL false l
  let s := if !rooted && (s.head? == some 47) then 92 :: s else s
  let s := if !dirs && ((s.getLast? == some 47) && !quotB s) then s.take (s.length - 1) ++ [92, 47] else s
  let s := if rooted then 47 :: s else s
  if dirs then s ++ [47] else s
theorem take_snoc1 (s : List UInt8) (c : UInt8) : (s ++ [c]).take ((s ++ [c]).length - 1) = s := by simp
theorem tbs_stop (p : List UInt8) (c : UInt8) (h : c ≠ 92) (t : List UInt8) : tbs (p ++ c :: t) = tbs (c :: t) := by
  refine snoc_ind (Q := fun t => tbs (p ++ c :: t) = tbs (c :: t)) ?_ (fun t d ih => ?_) t
  · have e : tbs [c] = 0 := by
      have := tbs_snoc [] c
      rwa [if_neg h, List.nil_append] at this
    rw [tbs_snoc, if_neg h, e]
  · rw [show p ++ c :: (t ++ [d]) = (p ++ c :: t) ++ [d] by simp, show c :: (t ++ [d]) = (c :: t) ++ [d] from rfl, tbs_snoc, tbs_snoc, ih]
theorem quot_snoc (s : List UInt8) (c : UInt8) : quotB (s ++ [c]) = decide (tbs s % 2 = 1) := by unfold quotB; rw [take_snoc1]
theorem quot_cons (a c : UInt8) (s : List UInt8) : quotB (a :: (s ++ [c])) = decide (tbs (a :: s) % 2 = 1) := quot_snoc (a :: s) c
theorem last_cons (a c : UInt8) (s : List UInt8) : (a :: (s ++ [c])).getLast? = some c := by
  rw [show a :: (s ++ [c]) = (a :: s) ++ [c] from rfl, List.getLast?_append]; rfl
theorem last_snoc (c : UInt8) (s : List UInt8) : (s ++ [c]).getLast? = some c := by rw [List.getLast?_append]; rfl
theorem glob_eq {rooted dirs : Bool} {l : List GPart} (hk : kindsOK l) (ht : ∀ g ∈ l, g.kind = 1 → g.text ≠ []) (h0 : l ≠ []) : globT rooted dirs l = globR rooted dirs l := by
  unfold globT globR
  simp only []
  cases dirs with
  | true => simp
  | false =>
    cases he : endsB l with
    | true =>
      obtain ⟨s, es, hev⟩ := ends_yes hk he
      rw [es]
      have hq : decide (tbs s % 2 = 1) = false := decide_eq_false (by omega)
      have hlast := last_snoc 47 s
      cases rooted with
      | true => simp only [Bool.not_false, Bool.true_and, Bool.not_true, Bool.false_and, Bool.false_eq_true, if_false, if_true, hlast, quot_snoc, hq, beq_self_eq_true]
      | false =>
        simp only [Bool.not_false, Bool.true_and, if_true, Bool.false_eq_true, if_false]
        cases s with
        | nil => decide
        | cons a t =>
          have hh1 : ((a :: t ++ [47]).take ((a :: t ++ [47]).length - 1) ++ [92, 47]).head? = some a := by rw [take_snoc1]; rfl
          have hh2 : (a :: t ++ [47]).head? = some a := rfl
          rw [hh1, hh2]
          by_cases ha : a = 47
          · subst ha
            have e2 : quotB (92 :: (47 :: t ++ [47])) = false := by
              rw [quot_cons 92 47 (47 :: t)]
              have := tbs_stop [92] 47 (by decide) t
              simp only [List.singleton_append] at this
              rw [this]
              exact hq
            have e3 : (92 :: (47 :: t ++ [47])).getLast? = some 47 := last_cons 92 47 (47 :: t)
            simp only [beq_self_eq_true, if_true, e2, e3, Bool.not_false, Bool.and_self]
            simp
          · have e1 : (some a == some (47 : UInt8)) = false := by simpa using ha
            rw [e1]
            simp only [Bool.false_eq_true, if_false]
            rw [show (a :: t ++ [47]) = (a :: t) ++ [47] from rfl, last_snoc, quot_snoc, hq]
            simp
    | false =>
      obtain ⟨s, c, es, hc⟩ := ends_no hk ht h0 he
      rw [es]
      have e1 : (some c == some (47 : UInt8)) = false := by simpa using hc
      have hlast := last_snoc c s
      have hlast2 := last_cons 92 c s
      simp only [Bool.not_false, Bool.true_and, Bool.false_eq_true, if_false]
      by_cases hb : (!rooted && ((s ++ [c]).head? == some 47)) = true
      · rw [if_pos hb, hlast2, e1]; simp
      · rw [if_neg hb, hlast, e1]; simp
theorem chk_ok : ∀ {pt : Bool} {l : List GPart}, chkL pt l = 0 → ∀ g ∈ l, (1 ≤ g.kind ∧ g.kind ≤ 6) ∧ formBad g = false ∧ chkG g = 0
  | _, [], _, _, hg => by cases hg
  | pt, x :: l, h, g, hg => by
    rw [chkL] at h
    split at h
    · exact absurd h (by decide)
    · rename_i hk
      split at h
      · exact absurd h (by decide)
      · rename_i hf
        split at h
        · exact absurd h (by decide)
        · split at h
          · rename_i hc
            exact absurd h hc
          · rename_i hc
            rcases List.mem_cons.1 hg with rfl | hg
            · exact ⟨by omega, by simpa using hf, by omega⟩
            · exact chk_ok h g hg
theorem chk_kinds {pt : Bool} {l : List GPart} (h : chkL pt l = 0) : kindsOK l := fun g hg => (chk_ok h g hg).1
theorem form_text {g : GPart} (h : formBad g = false) (h1 : g.kind = 1) : g.text ≠ [] := by
  intro e
  simp [formBad, h1, e] at h
theorem chk_texts {pt : Bool} {l : List GPart} (h : chkL pt l = 0) : ∀ g ∈ l, g.kind = 1 → g.text ≠ [] := fun g hg h1 => form_text (chk_ok h g hg).2.1 h1
theorem escT_len (p : UInt8 → Bool) : ∀ t : List UInt8, (escT p t).length ≤ 2 * t.length
  | [] => Nat.le_refl _
  | c :: t => by
    have := escT_len p t
    rw [escT, List.length_append, List.length_cons]
    split <;> simp <;> omega
theorem bnd_len (n : Int) : (bnd n).length ≤ 2 := escT_len bndB [_]
theorem showR_len (x : Int × Int) : (showR x).length ≤ 5 := by
  have h1 := bnd_len x.1
  have h2 := bnd_len x.2
  have a1 : (if x.2 > x.1 + 1 then [45] else [] : List UInt8).length ≤ 1 := by split <;> decide
  have a2 : (if x.2 > x.1 then bnd x.2 else []).length ≤ 2 := by
    split
    · exact h2
    · exact Nat.zero_le _
  unfold showR
  simp only [List.length_append]
  omega
theorem showS_len (neg : Bool) (r : List (Int × Int)) : (showS neg r).length ≤ 3 + 5 * r.length := by
  have h : (r.map showR).flatten.length ≤ 5 * r.length := by
    induction r with
    | nil => simp
    | cons x r ih =>
      have := showR_len x
      simp only [List.map_cons, List.flatten_cons, List.length_append, List.length_cons]
      omega
  have a1 : (if neg then [94] else [] : List UInt8).length ≤ 1 := by split <;> decide
  unfold showS
  simp only [List.length_append, List.length_cons, List.length_nil]
  omega
mutual
theorem shG_len : ∀ (w : Bool) (g : GPart), (shG w g).length ≤ 6 * gW g
  | w, .mk k t n r ws => by
    have h1 := escT_len (escB w) t
    have h2 := showS_len n r
    have h3 := shW_len true ws
    have h4 := rng_len r
    rw [gW_eq, shG]
    simp only [GPart.text, GPart.ranges, GPart.ways]
    split
    · omega
    · split
      · simp; omega
      · split
        · simp; omega
        · split
          · simp; omega
          · split
            · omega
            · split
              · simp; omega
              · simp
theorem shL_len : ∀ (w : Bool) (l : List GPart), (shL w l).length ≤ 6 * lW l
  | _, [] => by rw [shL]; exact Nat.zero_le _
  | w, g :: l => by
    have h1 := shG_len w g
    have h2 := shL_len w l
    rw [shL, lW_cons, List.length_append]; omega
theorem shW_len : ∀ (b : Bool) (ws : List (List GPart)), (shW b ws).length ≤ 6 * wW ws
  | _, [] => by rw [shW]; exact Nat.zero_le _
  | b, l :: ws => by
    have h1 := shL_len true l
    have h2 := shW_len false ws
    rw [shW, wW_cons, List.length_cons, List.length_append]; omega
end
def chkGlob (rooted dirs : Bool) (l : List GPart) : Int :=
  if 200 < cntL l ∨ 5 < deepL l then 8 else if chkL false l ≠ 0 then chkL false l else if l = [] then 21 else if stL false l then 6 else if 200 < (globT rooted dirs l).length then 8 else 0
end Go.Pw
