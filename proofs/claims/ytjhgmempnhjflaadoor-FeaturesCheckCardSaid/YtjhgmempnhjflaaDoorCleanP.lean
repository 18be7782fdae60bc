import Derived.Test.YtjhgmempnhjflaaDoorJoinB
import Derived.Test.YtjhgmempnhjflaaDoorPwY
namespace Go.Pw
open Go Go.RowKit Go.Proofs
set_option maxRecDepth 100000
set_option linter.unusedSimpArgs false
set_option linter.unusedVariables false
def cleanL : List (List UInt8) → List (List UInt8) → Option (List (List UInt8))
  | out, [] => some out
  | out, x :: r => if x = [] ∨ x = [46] then cleanL out r else if x = [46, 46] then (if out = [] then none else cleanL out.dropLast r) else cleanL (out ++ [x]) r
def cleanR (s : List UInt8) : List UInt8 × Int := match cleanL [] (spl 47 s) with | none => ([], 3) | some out => joinR out
theorem drop_cons {α : Type} {l : List α} {i : Nat} {x : α} (h : l[i]? = some x) : l.drop i = x :: l.drop (i + 1) := by
  rw [List.drop_eq_getElem_cons (List.getElem?_eq_some_iff.1 h).1, (List.getElem?_eq_some_iff.1 h).2]
theorem cleanL_skip {l out : List (List UInt8)} {i : Nat} {x : List UInt8} {r : Option (List (List UInt8))} (h : l[i]? = some x) (hx : x = [] ∨ x = [46]) (hi : cleanL out (l.drop i) = r) : cleanL out (l.drop (i + 1)) = r := by
  rw [drop_cons h, cleanL, if_pos hx] at hi; exact hi
theorem cleanL_up0 {l : List (List UInt8)} {i : Nat} {x : List UInt8} {r : Option (List (List UInt8))} (h : l[i]? = some x) (h1 : ¬ x = []) (h2 : ¬ x = [46]) (h3 : x = [46, 46]) (hi : cleanL [] (l.drop i) = r) : r = none := by
  rw [drop_cons h, cleanL, if_neg (by simp [h1, h2]), if_pos h3, if_pos rfl] at hi; exact hi.symm
theorem cleanL_up {l out : List (List UInt8)} {i : Nat} {x : List UInt8} {r : Option (List (List UInt8))} (h : l[i]? = some x) (h1 : ¬ x = []) (h2 : ¬ x = [46]) (h3 : x = [46, 46]) (ho : ¬ out = []) (hi : cleanL out (l.drop i) = r) : cleanL out.dropLast (l.drop (i + 1)) = r := by
  rw [drop_cons h, cleanL, if_neg (by simp [h1, h2]), if_pos h3, if_neg ho] at hi; exact hi
theorem cleanL_add {l out : List (List UInt8)} {i : Nat} {x : List UInt8} {r : Option (List (List UInt8))} (h : l[i]? = some x) (h1 : ¬ x = []) (h2 : ¬ x = [46]) (h3 : ¬ x = [46, 46]) (hi : cleanL out (l.drop i) = r) : cleanL (out ++ [x]) (l.drop (i + 1)) = r := by
  rw [drop_cons h, cleanL, if_neg (by simp [h1, h2]), if_neg h3] at hi; exact hi
theorem cleanL_bulk : ∀ (r out o2 : List (List UInt8)), cleanL out r = some o2 → pvWss (pstrs o2) ≤ pvWss (pstrs out) + pvWss (pstrs r)
  | [], out, o2, h => by simp only [cleanL, Option.some.injEq] at h; subst h; exact Nat.le_add_right _ _
  | x :: r, out, o2, h => by
    have app : ∀ (a : List (List UInt8)) (y : List UInt8), pvWss (pstrs (a ++ [y])) = pvWss (pstrs a) + (y.length + 1) := by
      intro a y
      induction a with
      | nil => simp [pstrs, pvWss, pvWs, pvW, str_size]
      | cons b a ih => simp only [List.cons_append, pstrs, List.map_cons, pvWss] at ih ⊢; omega
    have hx : pvWss (pstrs (x :: r)) = (x.length + 1) + pvWss (pstrs r) := by simp [pstrs, pvWss, pvWs, pvW, str_size]
    rw [cleanL] at h
    split at h
    · have := cleanL_bulk r out o2 h; omega
    · split at h
      · split at h
        · cases h
        · rename_i hne
          have := cleanL_bulk r _ o2 h
          have e : out = out.dropLast ++ [out.getLast hne] := (List.dropLast_concat_getLast hne).symm
          have e2 := app out.dropLast (out.getLast hne)
          rw [← e] at e2
          omega
      · have := cleanL_bulk r _ o2 h
        rw [app] at this
        omega
theorem spl_bulk (c : UInt8) : ∀ s : List UInt8, pvWss (pstrs (spl c s)) = s.length + 1
  | [] => by simp [spl, pstrs, pvWss, pvWs, pvW, str_size]
  | b :: l => by
    have ih := spl_bulk c l
    obtain ⟨x, r, e⟩ : ∃ x r, spl c l = x :: r := List.exists_cons_of_ne_nil (spl_ne c l)
    simp only [spl, e, List.headD_cons, List.tail_cons]
    rw [e] at ih
    split
    · simp only [pstrs, List.map_cons, pvWss, pvWs, pvW, str_size, List.length_nil, List.length_cons] at ih ⊢; omega
    · simp only [pstrs, List.map_cons, pvWss, pvWs, pvW, str_size, List.length_cons] at ih ⊢; omega
structure Enc where
  forbid : List UInt8
  head : List UInt8
  tail : List UInt8
  kase : Bool
  names : List (List UInt8)
  maxName : Int
def encPV (x : Enc) : List PV := [pstr x.forbid, pstr x.head, pstr x.tail, .ro false 1 (pstrs x.names), pbool x.kase, pint x.maxName]
def lowL (s : List UInt8) : List UInt8 := s.map lowC
def letterB (c : UInt8) : Bool := decide (65 ≤ c.toNat ∧ c.toNat ≤ 90) || decide (97 ≤ c.toNat ∧ c.toNat ≤ 122)
def digitB (c : UInt8) : Bool := decide (48 ≤ c.toNat ∧ c.toNat ≤ 57)
def badB (k : Bool) (c : UInt8) : Bool := letterB c || digitB c || c == 37 || c == 47 || (k && c == 94)
def formB (k : Bool) (s : List UInt8) : Bool := decide s.Nodup && s.all fun c => !badB k c
def namesE : Option (List UInt8) → List (List UInt8) → Int
  | _, [] => 0
  | p, n :: r => if isNameB n = false ∨ lowL n ≠ n ∨ n.any [37, 94].contains = true then 2 else if (p.any fun q => !Op.bytesLess q n) = true then 10 else namesE (some n) r
def encCheckR (x : Enc) : Int :=
  if [x.forbid, x.head, x.tail].all (formB x.kase) then (if namesE none x.names ≠ 0 then namesE none x.names else if x.maxName < 3 ∨ 255 < x.maxName then 7 else 0) else 6
def hexC (n : Nat) : UInt8 := if n < 10 then UInt8.ofNat (48 + n) else UInt8.ofNat (55 + n)
def encAt (x : Enc) (taken : Bool) (n i : Nat) (c : UInt8) : List UInt8 :=
  if c = 37 ∨ c ∈ x.forbid ∨ (i = 0 ∧ (c ∈ x.head ∨ taken = true)) ∨ (i + 1 = n ∧ c ∈ x.tail) then [37, hexC (c.toNat / 16), hexC (c.toNat % 16)]
  else if x.kase = true ∧ (c = 94 ∨ (65 ≤ c.toNat ∧ c.toNat ≤ 90)) then [94, lowC c] else [c]
def encFrom (x : Enc) (taken : Bool) (n : Nat) : Nat → List UInt8 → List UInt8
  | _, [] => []
  | i, c :: r => encAt x taken n i c ++ encFrom x taken n (i + 1) r
def encName (x : Enc) (s : List UInt8) : List UInt8 := encFrom x (x.names.contains (lowL s)) s.length 0 s
def encPath (x : Enc) (s : List UInt8) : List UInt8 × Int :=
  if ((namesR s).map (encName x)).any (fun n => decide (x.maxName < (n.length : Int))) then ([], 2)
  else if 1024 < (Lib.join ((namesR s).map (encName x)) [47]).length then ([], 2) else (Lib.join ((namesR s).map (encName x)) [47], 0)
def encR (x : Enc) (s : List UInt8) : List UInt8 × Int := if isPathB s then encPath x s else ([], 1)
def encodeR (x : Enc) (s : List UInt8) : List UInt8 × Int := if encCheckR x = 0 then encR x s else ([], encCheckR x)
def hexV (c : UInt8) : Option Nat := if 48 ≤ c.toNat ∧ c.toNat ≤ 57 then some (c.toNat - 48) else if 65 ≤ c.toNat ∧ c.toNat ≤ 70 then some (c.toNat - 55) else none
def upC (c : UInt8) : UInt8 := if 97 ≤ c.toNat ∧ c.toNat ≤ 122 then c - 32 else c
def decFrom (k : Bool) : List UInt8 → Option (List UInt8)
  | [] => some []
  | [c] => if c = 37 ∨ (k = true ∧ c = 94) then none else some [c]
  | [c, d] => if c = 37 then none else if k = true ∧ c = 94 then some [upC d] else (decFrom k [d]).map (c :: ·)
  | c :: d :: e :: r => if c = 37 then (match hexV d, hexV e with | some a, some b => (decFrom k r).map (UInt8.ofNat (a * 16 + b) :: ·) | _, _ => none)
      else if k = true ∧ c = 94 then (decFrom k (e :: r)).map (upC d :: ·) else (decFrom k (d :: e :: r)).map (c :: ·)
def decPath (x : Enc) (p : List UInt8) : List UInt8 × Int :=
  match (namesR p).mapM (decFrom x.kase) with
  | none => ([], 6)
  | some l => if (namesR (Lib.join l [47])).length ≠ l.length ∨ isPathB (Lib.join l [47]) = false ∨ encPath x (Lib.join l [47]) ≠ (p, 0) then ([], 6) else (Lib.join l [47], 0)
def decR (x : Enc) (p : List UInt8) : List UInt8 × Int := if isPathB p then decPath x p else ([], 1)
def decodeR (x : Enc) (s : List UInt8) : List UInt8 × Int := if encCheckR x = 0 then decR x s else ([], encCheckR x)
def decRef (x : Enc) (p : List UInt8) : List UInt8 × Int :=
  if isPathB p then (match decFrom x.kase p with | none => ([], 6) | some out => if encR x out = (p, 0) then (out, 0) else ([], 6)) else ([], 1)

theorem all_u8 {Q : UInt8 → Prop} (h : ∀ n : Fin 256, Q (UInt8.ofNat n.val)) (c : UInt8) : Q c := by
  have := h ⟨c.toNat, c.toNat_lt⟩
  simpa using this

theorem hexV_hexC : ∀ n : Fin 16, hexV (hexC n.val) = some n.val := by decide
theorem hexV_hi (c : UInt8) : hexV (hexC (c.toNat / 16)) = some (c.toNat / 16) := hexV_hexC ⟨c.toNat / 16, by have := c.toNat_lt; omega⟩
theorem hexV_lo (c : UInt8) : hexV (hexC (c.toNat % 16)) = some (c.toNat % 16) := hexV_hexC ⟨c.toNat % 16, by omega⟩
theorem hex_back (c : UInt8) : UInt8.ofNat (c.toNat / 16 * 16 + c.toNat % 16) = c := by
  have : c.toNat / 16 * 16 + c.toNat % 16 = c.toNat := by omega
  rw [this]; simp

theorem upC_lowC {c : UInt8} (h : c = 94 ∨ (65 ≤ c.toNat ∧ c.toNat ≤ 90)) : upC (lowC c) = c := by
  revert h
  exact all_u8 (Q := fun c => c = 94 ∨ (65 ≤ c.toNat ∧ c.toNat ≤ 90) → upC (lowC c) = c) (by decide) c

theorem decFrom_plain {k : Bool} {c : UInt8} (h1 : c ≠ 37) (h2 : ¬ (k = true ∧ c = 94)) (r : List UInt8) : decFrom k (c :: r) = (decFrom k r).map (c :: ·) := by
  match r with
  | [] => simp only [decFrom]; rw [if_neg (by rintro (h | h); exact h1 h; exact h2 h)]; rfl
  | [d] => conv => lhs; rw [decFrom, if_neg h1, if_neg h2]
  | d :: e :: r => rw [decFrom, if_neg h1, if_neg h2]
theorem decFrom_case {k : Bool} (hk : k = true) (d : UInt8) (r : List UInt8) : decFrom k (94 :: d :: r) = (decFrom k r).map (upC d :: ·) := by
  match r with
  | [] => simp only [decFrom]; rw [if_neg (by decide), if_pos ⟨hk, trivial⟩]; rfl
  | e :: r => rw [decFrom, if_neg (by decide), if_pos ⟨hk, rfl⟩]
theorem decFrom_hex {k : Bool} {d e : UInt8} {a b : Nat} (h1 : hexV d = some a) (h2 : hexV e = some b) (r : List UInt8) : decFrom k (37 :: d :: e :: r) = (decFrom k r).map (UInt8.ofNat (a * 16 + b) :: ·) := by
  rw [decFrom, if_pos rfl, h1, h2]

theorem dec_enc (x : Enc) (tk : Bool) (n : Nat) : ∀ (s : List UInt8) (i : Nat) (r : List UInt8), decFrom x.kase (encFrom x tk n i s ++ r) = (decFrom x.kase r).map (s ++ ·)
  | [], i, r => by simp [encFrom]
  | c :: s, i, r => by
    have ih := dec_enc x tk n s (i + 1) r
    rw [encFrom, List.append_assoc]
    unfold encAt
    split
    · simp only [List.cons_append, List.nil_append]
      rw [decFrom_hex (hexV_hi c) (hexV_lo c), ih, hex_back, Option.map_map]; rfl
    · rename_i hn
      split
      · rename_i hk
        simp only [List.cons_append, List.nil_append]
        rw [decFrom_case hk.1, ih, upC_lowC hk.2, Option.map_map]; rfl
      · rename_i hk
        simp only [List.cons_append, List.nil_append]
        rw [decFrom_plain (fun h => hn (.inl h)) (fun h => hk ⟨h.1, .inl h.2⟩), ih, Option.map_map]; rfl

theorem dec_encName (x : Enc) (s : List UInt8) : decFrom x.kase (encName x s) = some s := by
  have := dec_enc x (x.names.contains (lowL s)) s.length s 0 []
  rw [List.append_nil] at this
  rw [encName, this]; simp [decFrom]
theorem dec_encName_app (x : Enc) (s r : List UInt8) : decFrom x.kase (encName x s ++ r) = (decFrom x.kase r).map (s ++ ·) := dec_enc x _ _ s 0 r

theorem join_cons2 (c : UInt8) (a b : List UInt8) (r : List (List UInt8)) : Lib.join (a :: b :: r) [c] = a ++ (c :: Lib.join (b :: r) [c]) := by
  rw [Lib.join_cons, Lib.join_cons]; simp [Lib.joinTail]

theorem dec_join (x : Enc) : ∀ l : List (List UInt8), decFrom x.kase (Lib.join (l.map (encName x)) [47]) = some (Lib.join l [47])
  | [] => by simp [Lib.join, decFrom]
  | [a] => by simp only [List.map_cons, List.map_nil, Lib.join_one]; exact dec_encName x a
  | a :: b :: r => by
    have ih := dec_join x (b :: r)
    simp only [List.map_cons] at ih ⊢
    rw [join_cons2, join_cons2, dec_encName_app, decFrom_plain (by decide) (by rintro ⟨_, h⟩; exact absurd h (by decide)), ih]; rfl

theorem hexC_mem (n : Fin 16) : badB true (hexC n.val) = true ∧ hexC n.val ≠ 0 ∧ hexC n.val ≠ 47 ∧ hexC n.val ≠ 37 ∧ hexC n.val ≠ 94 := by revert n; decide

/-- What encoding makes of a byte. -/
theorem encAt_mem {x : Enc} {tk : Bool} {n i : Nat} {c b : UInt8} (hb : b ∈ encAt x tk n i c) : b = 37 ∨ (∃ m : Fin 16, b = hexC m.val) ∨ (x.kase = true ∧ b = 94) ∨ (x.kase = true ∧ b = lowC c ∧ (65 ≤ c.toNat ∧ c.toNat ≤ 90)) ∨ (b = c ∧ c ∉ x.forbid) := by
  unfold encAt at hb
  split at hb
  · simp only [List.mem_cons, List.not_mem_nil, or_false] at hb
    rcases hb with h | h | h
    · exact .inl h
    · exact .inr (.inl ⟨⟨c.toNat / 16, by have := c.toNat_lt; omega⟩, h⟩)
    · exact .inr (.inl ⟨⟨c.toNat % 16, by omega⟩, h⟩)
  · rename_i hn
    split at hb
    · rename_i hk
      simp only [List.mem_cons, List.not_mem_nil, or_false] at hb
      rcases hb with h | h
      · exact .inr (.inr (.inl ⟨hk.1, h⟩))
      · rcases hk.2 with h2 | h2
        · refine .inr (.inr (.inl ⟨hk.1, ?_⟩)); rw [h, h2]; decide
        · exact .inr (.inr (.inr (.inl ⟨hk.1, h, h2⟩)))
    · simp only [List.mem_cons, List.not_mem_nil, or_false] at hb
      exact .inr (.inr (.inr (.inr ⟨hb, fun h => hn (.inr (.inl h))⟩)))
theorem encFrom_mem {x : Enc} {tk : Bool} {n : Nat} {b : UInt8} : ∀ {s : List UInt8} {i : Nat}, b ∈ encFrom x tk n i s → ∃ j c, c ∈ s ∧ b ∈ encAt x tk n j c
  | [], i, h => by simp [encFrom] at h
  | c :: s, i, h => by
    rw [encFrom, List.mem_append] at h
    rcases h with h | h
    · exact ⟨i, c, by simp, h⟩
    · obtain ⟨j, d, h1, h2⟩ := encFrom_mem h
      exact ⟨j, d, by simp [h1], h2⟩
theorem lowC_up {c : UInt8} (h : 65 ≤ c.toNat ∧ c.toNat ≤ 90) : lowC c ≠ 0 ∧ lowC c ≠ 47 ∧ lowC c ≠ 37 ∧ lowC c ≠ 94 ∧ letterB (lowC c) = true := by
  revert h
  exact all_u8 (Q := fun c => (65 ≤ c.toNat ∧ c.toNat ≤ 90) → lowC c ≠ 0 ∧ lowC c ≠ 47 ∧ lowC c ≠ 37 ∧ lowC c ≠ 94 ∧ letterB (lowC c) = true) (by decide) c
/-- The bytes 0 and / come into an encoding by themselves alone. -/
theorem encName_clear {x : Enc} {s : List UInt8} {b : UInt8} (hb : b = 0 ∨ b = 47) (h : b ∈ encName x s) : b ∈ s := by
  obtain ⟨j, c, h1, h2⟩ := encFrom_mem h
  rcases encAt_mem h2 with h | ⟨m, h⟩ | ⟨_, h⟩ | ⟨_, h, h3⟩ | ⟨h, _⟩
  · subst h; rcases hb with h | h <;> exact absurd h (by decide)
  · have := hexC_mem m; rw [← h] at this; rcases hb with h | h
    · exact absurd h this.2.1
    · exact absurd h this.2.2.1
  · subst h; rcases hb with h | h <;> exact absurd h (by decide)
  · have := lowC_up h3; rw [← h] at this; rcases hb with h | h
    · exact absurd h this.1
    · exact absurd h this.2.1
  · rw [h]; exact h1
theorem spl_app {c : UInt8} : ∀ {a : List UInt8} (b : List UInt8), c ∉ a → spl c (a ++ c :: b) = a :: spl c b
  | [], b, _ => by simp [spl]
  | x :: a, b, h => by
    have hx : ¬ x = c := fun e => h (by simp [e])
    have ih := spl_app (a := a) b (fun h2 : c ∈ a => h (List.mem_cons_of_mem _ h2))
    rw [List.cons_append, spl, if_neg hx, ih]
    rfl
theorem spl_join {c : UInt8} : ∀ {l : List (List UInt8)}, l ≠ [] → (∀ a ∈ l, c ∉ a) → spl c (Lib.join l [c]) = l
  | [], h, _ => absurd rfl h
  | [a], _, h => by rw [Lib.join_one]; exact spl_none (h a (by simp))
  | a :: b :: r, _, h => by
    rw [join_cons2, spl_app _ (h a (by simp)), spl_join (by simp) fun x hx => h x (by simp [hx])]
theorem spl_mem {c : UInt8} : ∀ {s a : List UInt8}, a ∈ spl c s → c ∉ a ∧ ∀ b ∈ a, b ∈ s
  | [], a, h => by simp [spl] at h; subst h; simp
  | x :: s, a, h => by
    have ih := @spl_mem c s
    obtain ⟨y, r, e⟩ : ∃ y r, spl c s = y :: r := List.exists_cons_of_ne_nil (spl_ne c s)
    rw [spl] at h
    simp only [e, List.headD_cons, List.tail_cons] at h
    rw [e] at ih
    split at h
    · rcases List.mem_cons.1 h with h | h
      · subst h; simp
      · obtain ⟨h1, h2⟩ := ih h
        exact ⟨h1, fun b hb => by simp [h2 b hb]⟩
    · rename_i hx
      rcases List.mem_cons.1 h with h | h
      · subst h
        obtain ⟨h1, h2⟩ := @ih y (by simp)
        exact ⟨by simp only [List.mem_cons, not_or]; exact ⟨fun e => hx e.symm, h1⟩, fun b hb => by
          rcases List.mem_cons.1 hb with h | h
          · simp [h]
          · simp [h2 b h]⟩
      · obtain ⟨h1, h2⟩ := @ih a (by simp [h])
        exact ⟨h1, fun b hb => by simp [h2 b hb]⟩
theorem isNameB_iff {s : List UInt8} : isNameB s = true ↔ s ≠ [] ∧ s.length ≤ 255 ∧ s ≠ [46] ∧ s ≠ [46, 46] ∧ (0 : UInt8) ∉ s ∧ (47 : UInt8) ∉ s := by
  unfold isNameB
  simp only [Bool.and_eq_true, Bool.not_eq_true', beq_eq_false_iff_ne, decide_eq_true_eq, List.any_eq_false, List.contains_iff_mem, List.mem_cons, List.not_mem_nil, or_false, not_or]
  constructor
  · rintro ⟨⟨⟨⟨h1, h2⟩, h3⟩, h4⟩, h5⟩
    exact ⟨h1, h2, h3, h4, fun h => (h5 0 h).1 rfl, fun h => (h5 47 h).2 rfl⟩
  · rintro ⟨h1, h2, h3, h4, h5, h6⟩
    exact ⟨⟨⟨⟨h1, h2⟩, h3⟩, h4⟩, fun b hb => ⟨fun e => h5 (e ▸ hb), fun e => h6 (e ▸ hb)⟩⟩
theorem encFrom_ne {x : Enc} {tk : Bool} {n i : Nat} {c : UInt8} {s : List UInt8} : encFrom x tk n i (c :: s) ≠ [] := by
  rw [encFrom]; unfold encAt
  split
  · simp
  · split <;> simp
theorem encName_ne {x : Enc} {s : List UInt8} (h : s ≠ []) : encName x s ≠ [] := by
  obtain ⟨c, r, rfl⟩ := List.exists_cons_of_ne_nil h
  exact encFrom_ne
theorem encName_name {x : Enc} {s : List UInt8} (hs : isNameB s = true) (hl : ((encName x s).length : Int) ≤ x.maxName) (hm : x.maxName ≤ 255) : isNameB (encName x s) = true := by
  rw [isNameB_iff] at hs ⊢
  obtain ⟨h1, h2, h3, h4, h5, h6⟩ := hs
  have hd := dec_encName x s
  have p46 : ∀ r, decFrom x.kase (46 :: r) = (decFrom x.kase r).map (46 :: ·) := decFrom_plain (by decide) (by rintro ⟨_, h⟩; exact absurd h (by decide))
  refine ⟨encName_ne h1, by omega, fun e => h3 ?_, fun e => h4 ?_, fun h => h5 (encName_clear (.inl rfl) h), fun h => h6 (encName_clear (.inr rfl) h)⟩
  · rw [e, p46] at hd; simpa [decFrom] using hd.symm
  · rw [e, p46, p46] at hd; simpa [decFrom] using hd.symm
theorem path_names {s : List UInt8} (h : isPathB s = true) : (namesR s).all isNameB = true := namesR_all h
theorem namesR_ne {s : List UInt8} (h : s ≠ []) : namesR s = spl 47 s := by rw [namesR, if_neg h]
theorem namesR_nil {s : List UInt8} : namesR s = [] ↔ s = [] := by
  unfold namesR
  split
  · rename_i h; simp [h]
  · rename_i h; simp [h, spl_ne]
theorem isPathB_of {l : List (List UInt8)} (hl : l.all isNameB = true) (h : (Lib.join l [47]).length ≤ 1024) : isPathB (Lib.join l [47]) = true ∧ namesR (Lib.join l [47]) = l := by
  by_cases e : l = []
  · subst e; exact ⟨by simp [isPathB, Lib.join], by simp [namesR, Lib.join]⟩
  · have hn : ∀ a ∈ l, (47 : UInt8) ∉ a := fun a ha => (isNameB_iff.1 (List.all_eq_true.1 hl a ha)).2.2.2.2.2
    have hs := spl_join e hn
    have hne : Lib.join l [47] ≠ [] := fun h0 => by
      rw [h0] at hs
      simp only [spl] at hs
      subst hs
      exact absurd (List.all_eq_true.1 hl [] (by simp)) (by decide)
    refine ⟨?_, by rw [namesR_ne hne, hs]⟩
    unfold isPathB
    rw [hs, hl]
    simp [h]
theorem encPath_ok {x : Enc} {s t : List UInt8} (h : encPath x s = (t, 0)) : t = Lib.join ((namesR s).map (encName x)) [47] ∧ t.length ≤ 1024 ∧ ∀ n ∈ namesR s, ((encName x n).length : Int) ≤ x.maxName := by
  unfold encPath at h
  split at h
  · simp at h
  · rename_i ha
    split at h
    · simp at h
    · rename_i hb
      simp only [Prod.mk.injEq, and_true] at h
      subst h
      refine ⟨rfl, by omega, fun n hn => ?_⟩
      have h1 : ¬ ((namesR s).map (encName x)).any (fun n => decide (x.maxName < (n.length : Int))) = true := ha
      rw [List.any_eq_true] at h1
      have h2 : ¬ x.maxName < ((encName x n).length : Int) := fun h3 => h1 ⟨encName x n, List.mem_map.2 ⟨n, hn, rfl⟩, by simpa using h3⟩
      omega
theorem encPath_path {x : Enc} {s t : List UInt8} (hm : x.maxName ≤ 255) (hs : isPathB s = true) (h : encPath x s = (t, 0)) : isPathB t = true ∧ namesR t = (namesR s).map (encName x) := by
  obtain ⟨rfl, hl, hn⟩ := encPath_ok h
  refine isPathB_of ?_ hl
  rw [List.all_eq_true]
  intro a ha
  obtain ⟨n, h1, rfl⟩ := List.mem_map.1 ha
  exact encName_name (List.all_eq_true.1 (namesR_all hs) n h1) (hn n h1) hm
theorem mapM_some {α β : Type} {f : α → Option β} {g : β → α} (h : ∀ b, f (g b) = some b) : ∀ l : List β, (l.map g).mapM f = some l
  | [] => rfl
  | b :: l => by rw [List.map_cons, List.mapM_cons, h, mapM_some h l]; rfl
theorem dec_encPath {x : Enc} {s t : List UInt8} (hm : x.maxName ≤ 255) (hs : isPathB s = true) (h : encPath x s = (t, 0)) : decFrom x.kase t = some s ∧ (namesR t).mapM (decFrom x.kase) = some (namesR s) := by
  obtain ⟨h1, h2⟩ := encPath_path hm hs h
  refine ⟨?_, by rw [h2]; exact mapM_some (dec_encName x) _⟩
  obtain ⟨rfl, _⟩ := encPath_ok h
  rw [dec_join, namesR_join]
theorem decPath_enc {x : Enc} {s t : List UInt8} (hm : x.maxName ≤ 255) (hs : isPathB s = true) (h : encPath x s = (t, 0)) : decPath x t = (s, 0) := by
  obtain ⟨h1, h2⟩ := dec_encPath hm hs h
  unfold decPath
  rw [h2]
  simp only [namesR_join, h, hs]
  simp
/-- Name by name, or all at once: the same. -/
theorem decR_ref {x : Enc} (hm : x.maxName ≤ 255) (p : List UInt8) : decR x p = decRef x p := by
  unfold decR decRef
  split
  · rename_i hp
    by_cases h : ∃ s, isPathB s = true ∧ encPath x s = (p, 0)
    · obtain ⟨s, hs, he⟩ := h
      rw [decPath_enc hm hs he, (dec_encPath hm hs he).1]
      simp [encR, hs, he]
    · have hr : (match decFrom x.kase p with | none => (([] : List UInt8), (6 : Int)) | some out => if encR x out = (p, 0) then (out, 0) else ([], 6)) = ([], 6) := by
        split
        · rfl
        · rename_i out _
          rw [if_neg]
          intro he
          unfold encR at he
          split at he
          · rename_i ho; exact h ⟨out, ho, he⟩
          · simp at he
      rw [hr]
      unfold decPath
      split
      · rfl
      · rename_i l _
        rw [if_pos]
        by_cases hq : isPathB (Lib.join l [47]) = true
        · refine .inr (.inr fun he => h ⟨_, hq, he⟩)
        · exact .inr (.inl (by simpa using hq))
  · rfl
end Go.Pw
