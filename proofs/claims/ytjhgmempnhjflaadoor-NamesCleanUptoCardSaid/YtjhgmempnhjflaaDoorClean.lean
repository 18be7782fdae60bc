import Derived.Test.YtjhgmempnhjflaaDoorJoins
import Derived.Test.YtjhgmempnhjflaaDoorPwW
namespace Go.Pw
open Go Go.RowKit Go.Proofs
set_option maxRecDepth 100000
set_option linter.unusedSimpArgs false
set_option linter.unusedVariables false
def cleanL : List (List UInt8) → List (List UInt8) → Option (List (List UInt8))
  | out, [] => some out
  | out, x :: r => if x = [] ∨ x = [46] then cleanL out r else if x = [46, 46] then (if out = [] then none else cleanL out.dropLast r) else cleanL (out ++ [x]) r
def cleanR (s : List UInt8) : List UInt8 × Int := match cleanL [] (spl 47 s) with | none => ([], 3) | some out => joinR out
theorem drop_cons {α : Type} {l : List α} {i : Nat} {x : α} (h : l[i]? = some x) : l.drop i = x :: l.drop (i + 1) := by
  rw [List.drop_eq_getElem_cons (List.getElem?_eq_some_iff.1 h).1, (List.getElem?_eq_some_iff.1 h).2]
theorem cleanL_skip {l out : List (List UInt8)} {i : Nat} {x : List UInt8} {r : Option (List (List UInt8))} (h : l[i]? = some x) (hx : x = [] ∨ x = [46]) (hi : cleanL out (l.drop i) = r) : cleanL out (l.drop (i + 1)) = r := by
  rw [drop_cons h, cleanL, if_pos hx] at hi; exact hi
theorem cleanL_up0 {l : List (List UInt8)} {i : Nat} {x : List UInt8} {r : Option (List (List UInt8))} (h : l[i]? = some x) (h1 : ¬ x = []) (h2 : ¬ x = [46]) (h3 : x = [46, 46]) (hi : cleanL [] (l.drop i) = r) : r = none := by
  rw [drop_cons h, cleanL, if_neg (by simp [h1, h2]), if_pos h3, if_pos rfl] at hi; exact hi.symm
theorem cleanL_up {l out : List (List UInt8)} {i : Nat} {x : List UInt8} {r : Option (List (List UInt8))} (h : l[i]? = some x) (h1 : ¬ x = []) (h2 : ¬ x = [46]) (h3 : x = [46, 46]) (ho : ¬ out = []) (hi : cleanL out (l.drop i) = r) : cleanL out.dropLast (l.drop (i + 1)) = r := by
  rw [drop_cons h, cleanL, if_neg (by simp [h1, h2]), if_pos h3, if_neg ho] at hi; exact hi
theorem cleanL_add {l out : List (List UInt8)} {i : Nat} {x : List UInt8} {r : Option (List (List UInt8))} (h : l[i]? = some x) (h1 : ¬ x = []) (h2 : ¬ x = [46]) (h3 : ¬ x = [46, 46]) (hi : cleanL out (l.drop i) = r) : cleanL (out ++ [x]) (l.drop (i + 1)) = r := by
  rw [drop_cons h, cleanL, if_neg (by simp [h1, h2]), if_neg h3] at hi; exact hi
theorem cleanL_bulk : ∀ (r out o2 : List (List UInt8)), cleanL out r = some o2 → pvWss (pstrs o2) ≤ pvWss (pstrs out) + pvWss (pstrs r)
  | [], out, o2, h => by simp only [cleanL, Option.some.injEq] at h; subst h; exact Nat.le_add_right _ _
  | x :: r, out, o2, h => by
    have app : ∀ (a : List (List UInt8)) (y : List UInt8), pvWss (pstrs (a ++ [y])) = pvWss (pstrs a) + (y.length + 1) := by
      intro a y
      induction a with
      | nil => simp [pstrs, pvWss, pvWs, pvW, str_size]
      | cons b a ih => simp only [List.cons_append, pstrs, List.map_cons, pvWss] at ih ⊢; omega
    have hx : pvWss (pstrs (x :: r)) = (x.length + 1) + pvWss (pstrs r) := by simp [pstrs, pvWss, pvWs, pvW, str_size]
    rw [cleanL] at h
    split at h
    · have := cleanL_bulk r out o2 h; omega
    · split at h
      · split at h
        · cases h
        · rename_i hne
          have := cleanL_bulk r _ o2 h
          have e : out = out.dropLast ++ [out.getLast hne] := (List.dropLast_concat_getLast hne).symm
          have e2 := app out.dropLast (out.getLast hne)
          rw [← e] at e2
          omega
      · have := cleanL_bulk r _ o2 h
        rw [app] at this
        omega
theorem spl_bulk (c : UInt8) : ∀ s : List UInt8, pvWss (pstrs (spl c s)) = s.length + 1
  | [] => by simp [spl, pstrs, pvWss, pvWs, pvW, str_size]
  | b :: l => by
    have ih := spl_bulk c l
    obtain ⟨x, r, e⟩ : ∃ x r, spl c l = x :: r := List.exists_cons_of_ne_nil (spl_ne c l)
    simp only [spl, e, List.headD_cons, List.tail_cons]
    rw [e] at ih
    split
    · simp only [pstrs, List.map_cons, pvWss, pvWs, pvW, str_size, List.length_nil, List.length_cons] at ih ⊢; omega
    · simp only [pstrs, List.map_cons, pvWss, pvWs, pvW, str_size, List.length_cons] at ih ⊢; omega
structure Enc where
  forbid : List UInt8
  head : List UInt8
  tail : List UInt8
  kase : Bool
  names : List (List UInt8)
  maxName : Int
def encPV (x : Enc) : List PV := [pstr x.forbid, pstr x.head, pstr x.tail, pbool x.kase, .ro false 1 (pstrs x.names), pint x.maxName]
def lowL (s : List UInt8) : List UInt8 := s.map lowC
def letterB (c : UInt8) : Bool := decide (65 ≤ c.toNat ∧ c.toNat ≤ 90) || decide (97 ≤ c.toNat ∧ c.toNat ≤ 122)
def digitB (c : UInt8) : Bool := decide (48 ≤ c.toNat ∧ c.toNat ≤ 57)
def badB (k : Bool) (c : UInt8) : Bool := letterB c || digitB c || c == 37 || c == 47 || (k && c == 94)
def formB (k : Bool) (s : List UInt8) : Bool := decide s.Nodup && s.all fun c => !badB k c
def namesE : Option (List UInt8) → List (List UInt8) → Int
  | _, [] => 0
  | p, n :: r => if isNameB n = false ∨ lowL n ≠ n ∨ n.any [37, 94].contains = true then 2 else if (p.any fun q => !Op.bytesLess q n) = true then 10 else namesE (some n) r
def encCheckR (x : Enc) : Int :=
  if [x.forbid, x.head, x.tail].all (formB x.kase) then (if namesE none x.names ≠ 0 then namesE none x.names else if x.maxName < 3 ∨ 255 < x.maxName then 7 else 0) else 6
def hexC (n : Nat) : UInt8 := if n < 10 then UInt8.ofNat (48 + n) else UInt8.ofNat (55 + n)
def encAt (x : Enc) (taken : Bool) (n i : Nat) (c : UInt8) : List UInt8 :=
  if c = 37 ∨ c ∈ x.forbid ∨ (i = 0 ∧ (c ∈ x.head ∨ taken = true)) ∨ (i + 1 = n ∧ c ∈ x.tail) then [37, hexC (c.toNat / 16), hexC (c.toNat % 16)]
  else if x.kase = true ∧ (c = 94 ∨ (65 ≤ c.toNat ∧ c.toNat ≤ 90)) then [94, lowC c] else [c]
def encFrom (x : Enc) (taken : Bool) (n : Nat) : Nat → List UInt8 → List UInt8
  | _, [] => []
  | i, c :: r => encAt x taken n i c ++ encFrom x taken n (i + 1) r
def encName (x : Enc) (s : List UInt8) : List UInt8 := encFrom x (x.names.contains (lowL s)) s.length 0 s
def encPath (x : Enc) (s : List UInt8) : List UInt8 × Int :=
  if ((namesR s).map (encName x)).any (fun n => decide (x.maxName < (n.length : Int))) then ([], 2)
  else if 1024 < (Lib.join ((namesR s).map (encName x)) [47]).length then ([], 2) else (Lib.join ((namesR s).map (encName x)) [47], 0)
def encR (x : Enc) (s : List UInt8) : List UInt8 × Int := if isPathB s then encPath x s else ([], 1)
def encodeR (x : Enc) (s : List UInt8) : List UInt8 × Int := if encCheckR x = 0 then encR x s else ([], encCheckR x)
def hexV (c : UInt8) : Option Nat := if 48 ≤ c.toNat ∧ c.toNat ≤ 57 then some (c.toNat - 48) else if 65 ≤ c.toNat ∧ c.toNat ≤ 70 then some (c.toNat - 55) else none
def upC (c : UInt8) : UInt8 := if 97 ≤ c.toNat ∧ c.toNat ≤ 122 then c - 32 else c
def decFrom (k : Bool) : List UInt8 → Option (List UInt8)
  | [] => some []
  | [c] => if c = 37 ∨ (k = true ∧ c = 94) then none else some [c]
  | [c, d] => if c = 37 then none else if k = true ∧ c = 94 then some [upC d] else (decFrom k [d]).map (c :: ·)
  | c :: d :: e :: r => if c = 37 then (match hexV d, hexV e with | some a, some b => (decFrom k r).map (UInt8.ofNat (a * 16 + b) :: ·) | _, _ => none)
      else if k = true ∧ c = 94 then (decFrom k (e :: r)).map (upC d :: ·) else (decFrom k (d :: e :: r)).map (c :: ·)
def decPath (x : Enc) (p : List UInt8) : List UInt8 × Int :=
  match (namesR p).mapM (decFrom x.kase) with
  | none => ([], 6)
  | some l => if (namesR (Lib.join l [47])).length ≠ l.length ∨ isPathB (Lib.join l [47]) = false ∨ encPath x (Lib.join l [47]) ≠ (p, 0) then ([], 6) else (Lib.join l [47], 0)
def decR (x : Enc) (p : List UInt8) : List UInt8 × Int := if isPathB p then decPath x p else ([], 1)
def decodeR (x : Enc) (s : List UInt8) : List UInt8 × Int := if encCheckR x = 0 then decR x s else ([], encCheckR x)
def decRef (x : Enc) (p : List UInt8) : List UInt8 × Int :=
  if isPathB p then (match decFrom x.kase p with | none => ([], 6) | some out => if encR x out = (p, 0) then (out, 0) else ([], 6)) else ([], 1)

theorem all_u8 {Q : UInt8 → Prop} (h : ∀ n : Fin 256, Q (UInt8.ofNat n.val)) (c : UInt8) : Q c := by
  have := h ⟨c.toNat, c.toNat_lt⟩
  simpa using this

theorem hexV_hexC : ∀ n : Fin 16, hexV (hexC n.val) = some n.val := by decide
theorem hexV_hi (c : UInt8) : hexV (hexC (c.toNat / 16)) = some (c.toNat / 16) := hexV_hexC ⟨c.toNat / 16, by have := c.toNat_lt; omega⟩
theorem hexV_lo (c : UInt8) : hexV (hexC (c.toNat % 16)) = some (c.toNat % 16) := hexV_hexC ⟨c.toNat % 16, by omega⟩
theorem hex_back (c : UInt8) : UInt8.ofNat (c.toNat / 16 * 16 + c.toNat % 16) = c := by
  have : c.toNat / 16 * 16 + c.toNat % 16 = c.toNat := by omega
  rw [this]; simp

theorem upC_lowC {c : UInt8} (h : c = 94 ∨ (65 ≤ c.toNat ∧ c.toNat ≤ 90)) : upC (lowC c) = c := by
  revert h
  exact all_u8 (Q := fun c => c = 94 ∨ (65 ≤ c.toNat ∧ c.toNat ≤ 90) → upC (lowC c) = c) (by decide) c

theorem decFrom_plain {k : Bool} {c : UInt8} (h1 : c ≠ 37) (h2 : ¬ (k = true ∧ c = 94)) (r : List UInt8) : decFrom k (c :: r) = (decFrom k r).map (c :: ·) := by
  match r with
  | [] => simp only [decFrom]; rw [if_neg (by rintro (h | h); exact h1 h; exact h2 h)]; rfl
  | [d] => conv => lhs; rw [decFrom, if_neg h1, if_neg h2]
  | d :: e :: r => rw [decFrom, if_neg h1, if_neg h2]
theorem decFrom_case {k : Bool} (hk : k = true) (d : UInt8) (r : List UInt8) : decFrom k (94 :: d :: r) = (decFrom k r).map (upC d :: ·) := by
  match r with
  | [] => simp only [decFrom]; rw [if_neg (by decide), if_pos ⟨hk, trivial⟩]; rfl
  | e :: r => rw [decFrom, if_neg (by decide), if_pos ⟨hk, rfl⟩]
theorem decFrom_hex {k : Bool} {d e : UInt8} {a b : Nat} (h1 : hexV d = some a) (h2 : hexV e = some b) (r : List UInt8) : decFrom k (37 :: d :: e :: r) = (decFrom k r).map (UInt8.ofNat (a * 16 + b) :: ·) := by
  rw [decFrom, if_pos rfl, h1, h2]

theorem dec_enc (x : Enc) (tk : Bool) (n : Nat) : ∀ (s : List UInt8) (i : Nat) (r : List UInt8), decFrom x.kase (encFrom x tk n i s ++ r) = (decFrom x.kase r).map (s ++ ·)
  | [], i, r => by simp [encFrom]
  | c :: s, i, r => by
    have ih := dec_enc x tk n s (i + 1) r
    rw [encFrom, List.append_assoc]
    unfold encAt
    split
    · simp only [List.cons_append, List.nil_append]
      rw [decFrom_hex (hexV_hi c) (hexV_lo c), ih, hex_back, Option.map_map]; rfl
    · rename_i hn
      split
      · rename_i hk
        simp only [List.cons_append, List.nil_append]
        rw [decFrom_case hk.1, ih, upC_lowC hk.2, Option.map_map]; rfl
      · rename_i hk
        simp only [List.cons_append, List.nil_append]
        rw [decFrom_plain (fun h => hn (.inl h)) (fun h => hk ⟨h.1, .inl h.2⟩), ih, Option.map_map]; rfl

theorem dec_encName (x : Enc) (s : List UInt8) : decFrom x.kase (encName x s) = some s := by
  have := dec_enc x (x.names.contains (lowL s)) s.length s 0 []
  rw [List.append_nil] at this
  rw [encName, this]; simp [decFrom]
theorem dec_encName_app (x : Enc) (s r : List UInt8) : decFrom x.kase (encName x s ++ r) = (decFrom x.kase r).map (s ++ ·) := dec_enc x _ _ s 0 r

theorem join_cons2 (c : UInt8) (a b : List UInt8) (r : List (List UInt8)) : Lib.join (a :: b :: r) [c] = a ++ (c :: Lib.join (b :: r) [c]) := by
  rw [Lib.join_cons, Lib.join_cons]; simp [Lib.joinTail]

theorem dec_join (x : Enc) : ∀ l : List (List UInt8), decFrom x.kase (Lib.join (l.map (encName x)) [47]) = some (Lib.join l [47])
  | [] => by simp [Lib.join, decFrom]
  | [a] => by simp only [List.map_cons, List.map_nil, Lib.join_one]; exact dec_encName x a
  | a :: b :: r => by
    have ih := dec_join x (b :: r)
    simp only [List.map_cons] at ih ⊢
    rw [join_cons2, join_cons2, dec_encName_app, decFrom_plain (by decide) (by rintro ⟨_, h⟩; exact absurd h (by decide)), ih]; rfl

theorem hexC_mem (n : Fin 16) : badB true (hexC n.val) = true ∧ hexC n.val ≠ 0 ∧ hexC n.val ≠ 47 ∧ hexC n.val ≠ 37 ∧ hexC n.val ≠ 94 := by revert n; decide

/-- What encoding makes of a byte. -/
theorem encAt_mem {x : Enc} {tk : Bool} {n i : Nat} {c b : UInt8} (hb : b ∈ encAt x tk n i c) : b = 37 ∨ (∃ m : Fin 16, b = hexC m.val) ∨ (x.kase = true ∧ b = 94) ∨ (x.kase = true ∧ b = lowC c ∧ (65 ≤ c.toNat ∧ c.toNat ≤ 90)) ∨ (b = c ∧ c ∉ x.forbid) := by
  unfold encAt at hb
  split at hb
  · simp only [List.mem_cons, List.not_mem_nil, or_false] at hb
    rcases hb with h | h | h
    · exact .inl h
    · exact .inr (.inl ⟨⟨c.toNat / 16, by have := c.toNat_lt; omega⟩, h⟩)
    · exact .inr (.inl ⟨⟨c.toNat % 16, by omega⟩, h⟩)
  · rename_i hn
    split at hb
    · rename_i hk
      simp only [List.mem_cons, List.not_mem_nil, or_false] at hb
      rcases hb with h | h
      · exact .inr (.inr (.inl ⟨hk.1, h⟩))
      · rcases hk.2 with h2 | h2
        · refine .inr (.inr (.inl ⟨hk.1, ?_⟩)); rw [h, h2]; decide
        · exact .inr (.inr (.inr (.inl ⟨hk.1, h, h2⟩)))
    · simp only [List.mem_cons, List.not_mem_nil, or_false] at hb
      exact .inr (.inr (.inr (.inr ⟨hb, fun h => hn (.inr (.inl h))⟩)))
theorem encFrom_mem {x : Enc} {tk : Bool} {n : Nat} {b : UInt8} : ∀ {s : List UInt8} {i : Nat}, b ∈ encFrom x tk n i s → ∃ j c, c ∈ s ∧ b ∈ encAt x tk n j c
  | [], i, h => by simp [encFrom] at h
  | c :: s, i, h => by
    rw [encFrom, List.mem_append] at h
    rcases h with h | h
    · exact ⟨i, c, by simp, h⟩
    · obtain ⟨j, d, h1, h2⟩ := encFrom_mem h
      exact ⟨j, d, by simp [h1], h2⟩
theorem lowC_up {c : UInt8} (h : 65 ≤ c.toNat ∧ c.toNat ≤ 90) : lowC c ≠ 0 ∧ lowC c ≠ 47 ∧ lowC c ≠ 37 ∧ lowC c ≠ 94 ∧ letterB (lowC c) = true := by
  revert h
  exact all_u8 (Q := fun c => (65 ≤ c.toNat ∧ c.toNat ≤ 90) → lowC c ≠ 0 ∧ lowC c ≠ 47 ∧ lowC c ≠ 37 ∧ lowC c ≠ 94 ∧ letterB (lowC c) = true) (by decide) c
/-- The bytes 0 and / come into an encoding by themselves alone. -/
theorem encName_clear {x : Enc} {s : List UInt8} {b : UInt8} (hb : b = 0 ∨ b = 47) (h : b ∈ encName x s) : b ∈ s := by
  obtain ⟨j, c, h1, h2⟩ := encFrom_mem h
  rcases encAt_mem h2 with h | ⟨m, h⟩ | ⟨_, h⟩ | ⟨_, h, h3⟩ | ⟨h, _⟩
  · subst h; rcases hb with h | h <;> exact absurd h (by decide)
  · have := hexC_mem m; rw [← h] at this; rcases hb with h | h
    · exact absurd h this.2.1
    · exact absurd h this.2.2.1
  · subst h; rcases hb with h | h <;> exact absurd h (by decide)
  · have := lowC_up h3; rw [← h] at this; rcases hb with h | h
    · exact absurd h this.1
    · exact absurd h this.2.1
  · rw [h]; exact h1
theorem spl_app {c : UInt8} : ∀ {a : List UInt8} (b : List UInt8), c ∉ a → spl c (a ++ c :: b) = a :: spl c b
  | [], b, _ => by simp [spl]
  | x :: a, b, h => by
    have hx : ¬ x = c := fun e => h (by simp [e])
    have ih := spl_app (a := a) b (fun h2 : c ∈ a => h (List.mem_cons_of_mem _ h2))
    rw [List.cons_append, spl, if_neg hx, ih]
    rfl
theorem spl_join {c : UInt8} : ∀ {l : List (List UInt8)}, l ≠ [] → (∀ a ∈ l, c ∉ a) → spl c (Lib.join l [c]) = l
  | [], h, _ => absurd rfl h
  | [a], _, h => by rw [Lib.join_one]; exact spl_none (h a (by simp))
  | a :: b :: r, _, h => by
    rw [join_cons2, spl_app _ (h a (by simp)), spl_join (by simp) fun x hx => h x (by simp [hx])]
theorem spl_mem {c : UInt8} : ∀ {s a : List UInt8}, a ∈ spl c s → c ∉ a ∧ ∀ b ∈ a, b ∈ s
  | [], a, h => by simp [spl] at h; subst h; simp
  | x :: s, a, h => by
    have ih := @spl_mem c s
    obtain ⟨y, r, e⟩ : ∃ y r, spl c s = y :: r := List.exists_cons_of_ne_nil (spl_ne c s)
    rw [spl] at h
    simp only [e, List.headD_cons, List.tail_cons] at h
    rw [e] at ih
    split at h
    · rcases List.mem_cons.1 h with h | h
      · subst h; simp
      · obtain ⟨h1, h2⟩ := ih h
        exact ⟨h1, fun b hb => by simp [h2 b hb]⟩
    · rename_i hx
      rcases List.mem_cons.1 h with h | h
      · subst h
        obtain ⟨h1, h2⟩ := @ih y (by simp)
        exact ⟨by simp only [List.mem_cons, not_or]; exact ⟨fun e => hx e.symm, h1⟩, fun b hb => by
          rcases List.mem_cons.1 hb with h | h
          · simp [h]
          · simp [h2 b h]⟩
      · obtain ⟨h1, h2⟩ := @ih a (by simp [h])
        exact ⟨h1, fun b hb => by simp [h2 b hb]⟩
theorem isNameB_iff {s : List UInt8} : isNameB s = true ↔ s ≠ [] ∧ s.length ≤ 255 ∧ s ≠ [46] ∧ s ≠ [46, 46] ∧ (0 : UInt8) ∉ s ∧ (47 : UInt8) ∉ s := by
  unfold isNameB
  simp only [Bool.and_eq_true, Bool.not_eq_true', beq_eq_false_iff_ne, decide_eq_true_eq, List.any_eq_false, List.contains_iff_mem, List.mem_cons, List.not_mem_nil, or_false, not_or]
  constructor
  · rintro ⟨⟨⟨⟨h1, h2⟩, h3⟩, h4⟩, h5⟩
    exact ⟨h1, h2, h3, h4, fun h => (h5 0 h).1 rfl, fun h => (h5 47 h).2 rfl⟩
  · rintro ⟨h1, h2, h3, h4, h5, h6⟩
    exact ⟨⟨⟨⟨h1, h2⟩, h3⟩, h4⟩, fun b hb => ⟨fun e => h5 (e ▸ hb), fun e => h6 (e ▸ hb)⟩⟩
theorem encFrom_ne {x : Enc} {tk : Bool} {n i : Nat} {c : UInt8} {s : List UInt8} : encFrom x tk n i (c :: s) ≠ [] := by
  rw [encFrom]; unfold encAt
  split
  · simp
  · split <;> simp
theorem encName_ne {x : Enc} {s : List UInt8} (h : s ≠ []) : encName x s ≠ [] := by
  obtain ⟨c, r, rfl⟩ := List.exists_cons_of_ne_nil h
  exact encFrom_ne
theorem encName_name {x : Enc} {s : List UInt8} (hs : isNameB s = true) (hl : ((encName x s).length : Int) ≤ x.maxName) (hm : x.maxName ≤ 255) : isNameB (encName x s) = true := by
  rw [isNameB_iff] at hs ⊢
  obtain ⟨h1, h2, h3, h4, h5, h6⟩ := hs
  have hd := dec_encName x s
  have p46 : ∀ r, decFrom x.kase (46 :: r) = (decFrom x.kase r).map (46 :: ·) := decFrom_plain (by decide) (by rintro ⟨_, h⟩; exact absurd h (by decide))
  refine ⟨encName_ne h1, by omega, fun e => h3 ?_, fun e => h4 ?_, fun h => h5 (encName_clear (.inl rfl) h), fun h => h6 (encName_clear (.inr rfl) h)⟩
  · rw [e, p46] at hd; simpa [decFrom] using hd.symm
  · rw [e, p46, p46] at hd; simpa [decFrom] using hd.symm
theorem path_names {s : List UInt8} (h : isPathB s = true) : (namesR s).all isNameB = true := namesR_all h
theorem namesR_ne {s : List UInt8} (h : s ≠ []) : namesR s = spl 47 s := by rw [namesR, if_neg h]
theorem namesR_nil {s : List UInt8} : namesR s = [] ↔ s = [] := by
  unfold namesR
  split
  · rename_i h; simp [h]
  · rename_i h; simp [h, spl_ne]
theorem isPathB_of {l : List (List UInt8)} (hl : l.all isNameB = true) (h : (Lib.join l [47]).length ≤ 1024) : isPathB (Lib.join l [47]) = true ∧ namesR (Lib.join l [47]) = l := by
  by_cases e : l = []
  · subst e; exact ⟨by simp [isPathB, Lib.join], by simp [namesR, Lib.join]⟩
  · have hn : ∀ a ∈ l, (47 : UInt8) ∉ a := fun a ha => (isNameB_iff.1 (List.all_eq_true.1 hl a ha)).2.2.2.2.2
    have hs := spl_join e hn
    have hne : Lib.join l [47] ≠ [] := fun h0 => by
      rw [h0] at hs
      simp only [spl] at hs
      subst hs
      exact absurd (List.all_eq_true.1 hl [] (by simp)) (by decide)
    refine ⟨?_, by rw [namesR_ne hne, hs]⟩
    unfold isPathB
    rw [hs, hl]
    simp [h]
theorem encPath_ok {x : Enc} {s t : List UInt8} (h : encPath x s = (t, 0)) : t = Lib.join ((namesR s).map (encName x)) [47] ∧ t.length ≤ 1024 ∧ ∀ n ∈ namesR s, ((encName x n).length : Int) ≤ x.maxName := by
  unfold encPath at h
  split at h
  · simp at h
  · rename_i ha
    split at h
    · simp at h
    · rename_i hb
      simp only [Prod.mk.injEq, and_true] at h
      subst h
      refine ⟨rfl, by omega, fun n hn => ?_⟩
      have h1 : ¬ ((namesR s).map (encName x)).any (fun n => decide (x.maxName < (n.length : Int))) = true := ha
      rw [List.any_eq_true] at h1
      have h2 : ¬ x.maxName < ((encName x n).length : Int) := fun h3 => h1 ⟨encName x n, List.mem_map.2 ⟨n, hn, rfl⟩, by simpa using h3⟩
      omega
theorem encPath_path {x : Enc} {s t : List UInt8} (hm : x.maxName ≤ 255) (hs : isPathB s = true) (h : encPath x s = (t, 0)) : isPathB t = true ∧ namesR t = (namesR s).map (encName x) := by
  obtain ⟨rfl, hl, hn⟩ := encPath_ok h
  refine isPathB_of ?_ hl
  rw [List.all_eq_true]
  intro a ha
  obtain ⟨n, h1, rfl⟩ := List.mem_map.1 ha
  exact encName_name (List.all_eq_true.1 (namesR_all hs) n h1) (hn n h1) hm
theorem mapM_some {α β : Type} {f : α → Option β} {g : β → α} (h : ∀ b, f (g b) = some b) : ∀ l : List β, (l.map g).mapM f = some l
  | [] => rfl
  | b :: l => by rw [List.map_cons, List.mapM_cons, h, mapM_some h l]; rfl
theorem dec_encPath {x : Enc} {s t : List UInt8} (hm : x.maxName ≤ 255) (hs : isPathB s = true) (h : encPath x s = (t, 0)) : decFrom x.kase t = some s ∧ (namesR t).mapM (decFrom x.kase) = some (namesR s) := by
  obtain ⟨h1, h2⟩ := encPath_path hm hs h
  refine ⟨?_, by rw [h2]; exact mapM_some (dec_encName x) _⟩
  obtain ⟨rfl, _⟩ := encPath_ok h
  rw [dec_join, namesR_join]
theorem decPath_enc {x : Enc} {s t : List UInt8} (hm : x.maxName ≤ 255) (hs : isPathB s = true) (h : encPath x s = (t, 0)) : decPath x t = (s, 0) := by
  obtain ⟨h1, h2⟩ := dec_encPath hm hs h
  unfold decPath
  rw [h2]
  simp only [namesR_join, h, hs]
  simp
/-- Name by name, or all at once: the same. -/
theorem decR_ref {x : Enc} (hm : x.maxName ≤ 255) (p : List UInt8) : decR x p = decRef x p := by
  unfold decR decRef
  split
  · rename_i hp
    by_cases h : ∃ s, isPathB s = true ∧ encPath x s = (p, 0)
    · obtain ⟨s, hs, he⟩ := h
      rw [decPath_enc hm hs he, (dec_encPath hm hs he).1]
      simp [encR, hs, he]
    · have hr : (match decFrom x.kase p with | none => (([] : List UInt8), (6 : Int)) | some out => if encR x out = (p, 0) then (out, 0) else ([], 6)) = ([], 6) := by
        split
        · rfl
        · rename_i out _
          rw [if_neg]
          intro he
          unfold encR at he
          split at he
          · rename_i ho; exact h ⟨out, ho, he⟩
          · simp at he
      rw [hr]
      unfold decPath
      split
      · rfl
      · rename_i l _
        rw [if_pos]
        by_cases hq : isPathB (Lib.join l [47]) = true
        · refine .inr (.inr fun he => h ⟨_, hq, he⟩)
        · exact .inr (.inl (by simpa using hq))
  · rfl
theorem cleanL_names : ∀ (r out : List (List UInt8)), r.all isNameB = true → cleanL out r = some (out ++ r)
  | [], out, _ => by simp [cleanL]
  | x :: r, out, h => by
    simp only [List.all_cons, Bool.and_eq_true] at h
    have hx := h.1
    rw [isNameB_iff] at hx
    rw [cleanL, if_neg (by rintro (h | h); exact hx.1 h; exact hx.2.2.1 h), if_neg hx.2.2.2.1, cleanL_names r _ h.2]
    simp
theorem cleanR_nil : cleanR [] = ([], 0) := by decide
theorem joinR_cases (xs : List (List UInt8)) : (joinR xs).1 = [] ∨ (xs.all isNameB = true ∧ (Lib.join xs [47]).length ≤ 1024 ∧ joinR xs = (Lib.join xs [47], 0)) := by
  cases h : xs.all isNameB with
  | false => exact .inl (by rw [joinR_1 h])
  | true =>
    by_cases h2 : 1024 < (Lib.join xs [47]).length
    · exact .inl (by rw [joinR_2 h h2])
    · exact .inr ⟨rfl, by omega, joinR_3 h h2⟩
theorem cleanR_twice (s : List UInt8) : cleanR (cleanR s).1 = ((cleanR s).1, 0) ∧ isPathB (cleanR s).1 = true ∧ (cleanR s).1.length ≤ 1024 := by
  have nil : ∀ t : List UInt8, t = [] → cleanR t = (t, 0) ∧ isPathB t = true ∧ t.length ≤ 1024 := fun t e => by subst e; exact ⟨cleanR_nil, by decide, by simp⟩
  cases h : cleanL [] (spl 47 s) with
  | none =>
    have e : cleanR s = ([], 3) := by rw [cleanR, h]
    rw [e]
    exact nil [] rfl
  | some out =>
    have e : cleanR s = joinR out := by rw [cleanR, h]
    rw [e]
    rcases joinR_cases out with h0 | ⟨h1, h2, h3⟩
    · rw [h0]
      exact nil [] rfl
    · rw [h3]
      obtain ⟨h4, h5⟩ := isPathB_of h1 h2
      refine ⟨?_, h4, h2⟩
      by_cases e : Lib.join out [47] = []
      · simp only [e]; exact cleanR_nil
      · rw [namesR_ne e] at h5
        simp only
        rw [cleanR, h5, cleanL_names out [] h1]
        simp only [List.nil_append]
        rw [h3]
theorem nm35 : (Tryd.f35.name == "runtime.NumGoroutine") = false := by kernel_rfl
theorem clean_fun (W0 : World) (hm : HasMax W0) (s : List UInt8) (hs : s.length ≤ 1048576) :
    PFun Tryd.prog W0 35 [.one (pstr s)] (.tup [.one (pstr (cleanR s).1), .one (pint (cleanR s).2)]) := by
  intro h
  have hbs := spl_bulk 47 s
  have hjb := join_bulk 47 (spl 47 s)
  refine pcalls1 (n := 37) Tryd.func35 rfl nm35 rfl fun hb => ?_
  refine pwp_then fun N1 hN1 => ?_
  refine pwp_reg fun R2 hR2 => ?_
  refine pops_to rfl fun M hM => ?_
  simp only [pop, St.eval, constSlot, upd_at, Nat.reduceEqDiff, if_true, if_false, eq_self, true_and, and_true, str_list, str_size, str_app, str_cut, str_get]
  refine hM _ _ ?_
  clear hM M
  refine pops_to rfl fun M hM => ?_
  simp only [pop, St.eval, constSlot, upd_at, Nat.reduceEqDiff, if_true, if_false, eq_self, true_and, and_true, str_list, str_size, str_app, str_cut, str_get]
  refine hM _ _ ?_
  clear hM M
  refine pops_done (hR2 _ ?_)
  clear hR2 R2
  try simp only [thenK, scopeK]
  refine hN1 _ ?_
  clear hN1 N1
  refine pwp_then fun N3 hN3 => ?_
  refine pwp_reg fun R4 hR4 => ?_
  refine pops_to rfl fun M hM => ?_
  simp only [pop, St.eval, constSlot, upd_at, Nat.reduceEqDiff, if_true, if_false, eq_self, true_and, and_true, str_list, str_size, str_app, str_cut, str_get]
  refine hM _ _ ?_
  clear hM M
  refine pops_done (hR4 _ ?_)
  clear hR4 R4
  try simp only [thenK, scopeK]
  refine hN3 _ ?_
  clear hN3 N3
  refine pwp_then fun N5 hN5 => ?_
  refine pwp_then fun N6 hN6 => ?_
  refine pwp_reg fun R7 hR7 => ?_
  refine pops_to rfl fun M hM => ?_
  simp only [pop, St.eval, constSlot, upd_at, Nat.reduceEqDiff, if_true, if_false, eq_self, true_and, and_true, str_list, str_size, str_app, str_cut, str_get]
  refine hM _ _ ?_
  clear hM M
  refine pops_to rfl fun M hM => ?_
  simp only [pop, St.eval, constSlot, upd_at, Nat.reduceEqDiff, if_true, if_false, popCall, List.toList_toArray, List.map_cons, List.map_nil, svs, List.mapM_cons, List.mapM_nil, Option.bind_eq_bind, Option.bind_some, Option.pure_def, List.append_nil, List.cons_append, List.nil_append, eq_self, true_and, and_true, str_list, str_size, str_app, str_cut, str_get]
  refine PFun.use (split_fun W0 hm s 47 (by omega)) fun h1 s1 => hM _ _ ?_
  replace s1 := Same.trans (Same.refl _) s1
  clear hM M
  refine pops_to rfl fun M hM => ?_
  simp only [pop, St.eval, constSlot, upd_at, Nat.reduceEqDiff, if_true, if_false, popCall, List.toList_toArray, List.map_cons, List.map_nil, popBuiltin, popLen, lenOfSlot, List.length_map, Tryd.underlying49, eq_self, true_and, and_true, str_list, str_size, str_app, str_cut, str_get]
  refine hM _ _ ?_
  clear hM M
  refine pops_to rfl fun M hM => ?_
  simp only [pop, St.eval, constSlot, upd_at, Nat.reduceEqDiff, if_true, if_false, eq_self, true_and, and_true, str_list, str_size, str_app, str_cut, str_get]
  refine hM _ _ ?_
  clear hM M
  refine pops_done (hR7 _ ?_)
  clear hR7 R7
  try simp only [thenK, scopeK]
  refine hN6 _ ?_
  clear hN6 N6
  refine pwp_block ?_
  refine pwp_loop (fun k σ => ∃ (i : Nat), ∃ (sl : Slot), ∃ (out : List (List UInt8)), (k = (spl 47 s).length - i) ∧ (i ≤ (spl 47 s).length) ∧ (cleanL out ((spl 47 s).drop i) = cleanL [] (spl 47 s)) ∧ (out.length ≤ i) ∧ (Keeps h σ.hp ∧ OutIs 9 h σ.hp sl out) ∧ (σ.env 8 = .sv (.one (.ro true 1 (pstrs (spl 47 s))))) ∧ (σ.env 9 = .sv (.one (pint ((spl 47 s).length : Nat)))) ∧ (σ.env 10 = .sv (.one (pint (i : Nat)))) ∧ (σ.env 4 = sl)) _ ⟨_, .refl _ _, 0, (.sv (.one (.val (.slice none 0 0)))), [], rfl, ?_⟩ ?_
  · exact ⟨Nat.zero_le _, rfl, Nat.le_refl _, ⟨s1.keeps, .inl ⟨rfl, rfl⟩⟩, by simp only [upd_at, Nat.reduceEqDiff, if_true, if_false], by simp only [upd_at, Nat.reduceEqDiff, if_true, if_false], by simp only [upd_at, Nat.reduceEqDiff, if_true, if_false]; rfl, by simp only [upd_at, Nat.reduceEqDiff, if_true, if_false]⟩
  · rintro k ⟨e, hp0⟩ ⟨i, sl, out, hk0, hx0_0, hx0_1, hx0_2, sl0, e0_8, e0_9, e0_10, e0_4⟩
    simp only at sl0 e0_8 e0_9 e0_10 e0_4
    obtain ⟨hk0, ho⟩ := sl0
    refine pwp_then fun N8 hN8 => ?_
    refine pwp_reg fun R9 hR9 => ?_
    refine pops_to rfl fun M hM => ?_
    simp only [pop, St.eval, constSlot, upd_at, Nat.reduceEqDiff, if_true, if_false, popBin, binK, intK, strK, eqK, eq_self, true_and, and_true, str_list, str_size, str_app, str_cut, str_get, e0_8, e0_9, e0_10, e0_4]
    refine hM _ _ ?_
    clear hM M
    refine pops_done (hR9 _ ?_)
    clear hR9 R9
    try simp only [thenK, scopeK]
    refine hN8 _ ?_
    clear hN8 N8
    refine pwp_then fun N10 hN10 => ?_
    refine pwp_cond (by simp only [St.eval, upd_at, Nat.reduceEqDiff, if_true, if_false, e0_8, e0_9, e0_10, e0_4] <;> rfl) (fun c11 => ?_) (fun c11 => ?_)
    · skip
      have hi : i < (spl 47 s).length := by have := of_decide_eq_true c11; omega
      obtain ⟨x, hx⟩ : ∃ x, (spl 47 s)[i]? = some x := ⟨_, List.getElem?_eq_getElem hi⟩
      have hget : (pstrs (spl 47 s))[i]? = some [pstr x] := by simp only [List.getElem?_map, hx, Option.map_some]
      refine pwp_skip ?_
      try simp only [thenK, scopeK]
      refine hN10 _ ?_
      clear hN10 N10
      refine pwp_then fun N11 hN11 => ?_
      refine pwp_block ?_
      refine pwp_then fun N12 hN12 => ?_
      refine pwp_reg fun R13 hR13 => ?_
      refine pops_to rfl fun M hM => ?_
      simp only [pop, St.eval, constSlot, upd_at, Nat.reduceEqDiff, if_true, if_false, popIndexAddr, Tryd.underlying49, sz9, eq_self, true_and, and_true, str_list, str_size, str_app, str_cut, str_get, e0_8, e0_9, e0_10, e0_4, hget, Int.toNat_natCast]
      refine ⟨Int.natCast_nonneg _, hM _ _ ?_⟩
      clear hM M
      refine pops_to rfl fun M hM => ?_
      simp only [pop, St.eval, constSlot, upd_at, Nat.reduceEqDiff, if_true, if_false, popLoad, loadK, isAggD, List.drop_zero, List.getElem?_toArray, List.getElem?_cons_zero, List.getElem?_cons_succ, Bool.false_eq_true, Tryd.underlying9, sz9, eq_self, true_and, and_true, str_list, str_size, str_app, str_cut, str_get, e0_8, e0_9, e0_10, e0_4, hget, Int.toNat_natCast]
      refine hM _ _ ?_
      clear hM M
      refine pops_to rfl fun M hM => ?_
      simp only [pop, St.eval, constSlot, upd_at, Nat.reduceEqDiff, if_true, if_false, eq_self, true_and, and_true, str_list, str_size, str_app, str_cut, str_get, e0_8, e0_9, e0_10, e0_4, hget, Int.toNat_natCast]
      refine hM _ _ ?_
      clear hM M
      refine pops_done (hR13 _ ?_)
      clear hR13 R13
      try simp only [thenK, scopeK]
      refine hN12 _ ?_
      clear hN12 N12
      refine pwp_then fun N14 hN14 => ?_
      refine pwp_reg fun R15 hR15 => ?_
      refine pops_to rfl fun M hM => ?_
      simp only [pop, St.eval, constSlot, upd_at, Nat.reduceEqDiff, if_true, if_false, eq_self, true_and, and_true, str_list, str_size, str_app, str_cut, str_get, e0_8, e0_9, e0_10, e0_4, hget, Int.toNat_natCast]
      refine hM _ _ ?_
      clear hM M
      refine pops_done (hR15 _ ?_)
      clear hR15 R15
      try simp only [thenK, scopeK]
      refine hN14 _ ?_
      clear hN14 N14
      refine pwp_block ?_
      refine pwp_then fun N16 hN16 => ?_
      refine pwp_then fun N17 hN17 => ?_
      refine pwp_reg fun R18 hR18 => ?_
      refine pops_to rfl fun M hM => ?_
      simp only [pop, St.eval, constSlot, upd_at, Nat.reduceEqDiff, if_true, if_false, popBin, binK, intK, strK, eqK, Tryd.underlying9, isPtr, eq_self, true_and, and_true, str_list, str_size, str_app, str_cut, str_get, e0_8, e0_9, e0_10, e0_4, hget, Int.toNat_natCast]
      refine hM _ _ ?_
      clear hM M
      refine pops_to rfl fun M hM => ?_
      simp only [pop, St.eval, constSlot, upd_at, Nat.reduceEqDiff, if_true, if_false, eq_self, true_and, and_true, str_list, str_size, str_app, str_cut, str_get, e0_8, e0_9, e0_10, e0_4, hget, Int.toNat_natCast]
      refine hM _ _ ?_
      clear hM M
      refine pops_done (hR18 _ ?_)
      clear hR18 R18
      try simp only [thenK, scopeK]
      refine hN17 _ ?_
      clear hN17 N17
      refine pwp_cond (by simp only [St.eval, upd_at, Nat.reduceEqDiff, if_true, if_false, e0_8, e0_9, e0_10, e0_4, hget, Int.toNat_natCast] <;> rfl) (fun c19 => ?_) (fun c19 => ?_)
      · skip
        refine pwp_skip ?_
        try simp only [thenK, scopeK]
        refine hN16 _ ?_
        clear hN16 N16
        refine pwp_cond_true (by simp only [St.eval, upd_at, Nat.reduceEqDiff, if_true, if_false, e0_8, e0_9, e0_10, e0_4, hget, Int.toNat_natCast, c19] <;> rfl) ?_
        refine pwp_skip ?_
        try simp only [blockK, thenK, scopeK]
        try simp only [blockK, thenK, scopeK]
        try simp only [thenK, scopeK]
        refine hN11 _ ?_
        clear hN11 N11
        refine pwp_reg fun R19 hR19 => ?_
        refine pops_to rfl fun M hM => ?_
        simp only [pop, St.eval, constSlot, upd_at, Nat.reduceEqDiff, if_true, if_false, popBin, binK, intK, strK, eqK, eq_self, true_and, and_true, str_list, str_size, str_app, str_cut, str_get, e0_8, e0_9, e0_10, e0_4, hget, Int.toNat_natCast, c19]
        refine hM _ _ ?_
        clear hM M
        refine pops_to rfl fun M hM => ?_
        simp only [pop, St.eval, constSlot, upd_at, Nat.reduceEqDiff, if_true, if_false, eq_self, true_and, and_true, str_list, str_size, str_app, str_cut, str_get, e0_8, e0_9, e0_10, e0_4, hget, Int.toNat_natCast, c19]
        refine hM _ _ ?_
        clear hM M
        refine pops_done (hR19 _ ?_)
        clear hR19 R19
        try simp only [thenK, scopeK]
        exact ⟨_, by omega, _, .refl _ _, i + 1, sl, out, rfl, by omega, cleanL_skip hx (by simp at c19; simp [c19]) hx0_1, by omega, ⟨hk0, ho⟩, by simp only [upd_at, Nat.reduceEqDiff, if_true, if_false, e0_8, e0_9, e0_10, e0_4, hget, Int.toNat_natCast, c19], by simp only [upd_at, Nat.reduceEqDiff, if_true, if_false, e0_8, e0_9, e0_10, e0_4, hget, Int.toNat_natCast, c19], by simp only [upd_at, Nat.reduceEqDiff, if_true, if_false, e0_10]; rw [wrap_succ (by omega)], by simp only [upd_at, Nat.reduceEqDiff, if_true, if_false, e0_8, e0_9, e0_10, e0_4, hget, Int.toNat_natCast, c19]⟩
      · skip
        first
          | have h0 : ¬ x = [] := by simpa using c19
          | have h1 : ¬ x = [46] := by simpa using c19
        refine pwp_reg fun R20 hR20 => ?_
        refine pops_to rfl fun M hM => ?_
        simp only [pop, St.eval, constSlot, upd_at, Nat.reduceEqDiff, if_true, if_false, popBin, binK, intK, strK, eqK, Tryd.underlying9, isPtr, eq_self, true_and, and_true, str_list, str_size, str_app, str_cut, str_get, e0_8, e0_9, e0_10, e0_4, hget, Int.toNat_natCast]
        refine hM _ _ ?_
        clear hM M
        refine pops_to rfl fun M hM => ?_
        simp only [pop, St.eval, constSlot, upd_at, Nat.reduceEqDiff, if_true, if_false, eq_self, true_and, and_true, str_list, str_size, str_app, str_cut, str_get, e0_8, e0_9, e0_10, e0_4, hget, Int.toNat_natCast]
        refine hM _ _ ?_
        clear hM M
        refine pops_done (hR20 _ ?_)
        clear hR20 R20
        try simp only [thenK, scopeK]
        refine hN16 _ ?_
        clear hN16 N16
        refine pwp_cond (by simp only [St.eval, upd_at, Nat.reduceEqDiff, if_true, if_false, e0_8, e0_9, e0_10, e0_4, hget, Int.toNat_natCast] <;> rfl) (fun c19 => ?_) (fun c19 => ?_)
        · skip
          refine pwp_skip ?_
          try simp only [blockK, thenK, scopeK]
          try simp only [blockK, thenK, scopeK]
          try simp only [thenK, scopeK]
          refine hN11 _ ?_
          clear hN11 N11
          refine pwp_reg fun R21 hR21 => ?_
          refine pops_to rfl fun M hM => ?_
          simp only [pop, St.eval, constSlot, upd_at, Nat.reduceEqDiff, if_true, if_false, popBin, binK, intK, strK, eqK, eq_self, true_and, and_true, str_list, str_size, str_app, str_cut, str_get, e0_8, e0_9, e0_10, e0_4, hget, Int.toNat_natCast, c19]
          refine hM _ _ ?_
          clear hM M
          refine pops_to rfl fun M hM => ?_
          simp only [pop, St.eval, constSlot, upd_at, Nat.reduceEqDiff, if_true, if_false, eq_self, true_and, and_true, str_list, str_size, str_app, str_cut, str_get, e0_8, e0_9, e0_10, e0_4, hget, Int.toNat_natCast, c19]
          refine hM _ _ ?_
          clear hM M
          refine pops_done (hR21 _ ?_)
          clear hR21 R21
          try simp only [thenK, scopeK]
          exact ⟨_, by omega, _, .refl _ _, i + 1, sl, out, rfl, by omega, cleanL_skip hx (by simp at c19; simp [c19]) hx0_1, by omega, ⟨hk0, ho⟩, by simp only [upd_at, Nat.reduceEqDiff, if_true, if_false, e0_8, e0_9, e0_10, e0_4, hget, Int.toNat_natCast, c19], by simp only [upd_at, Nat.reduceEqDiff, if_true, if_false, e0_8, e0_9, e0_10, e0_4, hget, Int.toNat_natCast, c19], by simp only [upd_at, Nat.reduceEqDiff, if_true, if_false, e0_10]; rw [wrap_succ (by omega)], by simp only [upd_at, Nat.reduceEqDiff, if_true, if_false, e0_8, e0_9, e0_10, e0_4, hget, Int.toNat_natCast, c19]⟩
        · skip
          first
            | have h0 : ¬ x = [] := by simpa using c19
            | have h1 : ¬ x = [46] := by simpa using c19
          refine pwp_then fun N22 hN22 => ?_
          refine pwp_reg fun R23 hR23 => ?_
          refine pops_to rfl fun M hM => ?_
          simp only [pop, St.eval, constSlot, upd_at, Nat.reduceEqDiff, if_true, if_false, popBin, binK, intK, strK, eqK, Tryd.underlying9, isPtr, eq_self, true_and, and_true, str_list, str_size, str_app, str_cut, str_get, e0_8, e0_9, e0_10, e0_4, hget, Int.toNat_natCast]
          refine hM _ _ ?_
          clear hM M
          refine pops_to rfl fun M hM => ?_
          simp only [pop, St.eval, constSlot, upd_at, Nat.reduceEqDiff, if_true, if_false, eq_self, true_and, and_true, str_list, str_size, str_app, str_cut, str_get, e0_8, e0_9, e0_10, e0_4, hget, Int.toNat_natCast]
          refine hM _ _ ?_
          clear hM M
          refine pops_done (hR23 _ ?_)
          clear hR23 R23
          try simp only [thenK, scopeK]
          refine hN22 _ ?_
          clear hN22 N22
          refine pwp_cond (by simp only [St.eval, upd_at, Nat.reduceEqDiff, if_true, if_false, e0_8, e0_9, e0_10, e0_4, hget, Int.toNat_natCast] <;> rfl) (fun c22 => ?_) (fun c22 => ?_)
          · skip
            have h2 : x = [46, 46] := by simpa using c22
            refine pwp_then fun N24 hN24 => ?_
            refine pwp_then fun N25 hN25 => ?_
            refine pwp_reg fun R26 hR26 => ?_
            refine pops_to rfl fun M hM => ?_
            simp only [pop, St.eval, constSlot, upd_at, Nat.reduceEqDiff, if_true, if_false, eq_self, true_and, and_true, str_list, str_size, str_app, str_cut, str_get, e0_8, e0_9, e0_10, e0_4, hget, Int.toNat_natCast]
            refine hM _ _ ?_
            clear hM M
            refine pops_to rfl fun M hM => ?_
            simp only [pop, St.eval, constSlot, upd_at, Nat.reduceEqDiff, if_true, if_false, popCall, List.toList_toArray, List.map_cons, List.map_nil, popBuiltin, eq_self, true_and, and_true, str_list, str_size, str_app, str_cut, str_get, e0_8, e0_9, e0_10, e0_4, hget, Int.toNat_natCast]
            refine out_len Tryd.underlying49 ho (hM _ _ ?_)
            clear hM M
            refine pops_to rfl fun M hM => ?_
            simp only [pop, St.eval, constSlot, upd_at, Nat.reduceEqDiff, if_true, if_false, popBin, binK, intK, strK, eqK, Tryd.underlying3, isPtr, eq_self, true_and, and_true, str_list, str_size, str_app, str_cut, str_get, e0_8, e0_9, e0_10, e0_4, hget, Int.toNat_natCast]
            refine hM _ _ ?_
            clear hM M
            refine pops_done (hR26 _ ?_)
            clear hR26 R26
            try simp only [thenK, scopeK]
            refine hN25 _ ?_
            clear hN25 N25
            refine pwp_cond (by simp only [St.eval, upd_at, Nat.reduceEqDiff, if_true, if_false, e0_8, e0_9, e0_10, e0_4, hget, Int.toNat_natCast] <;> rfl) (fun c26 => ?_) (fun c26 => ?_)
            · skip
              have hne : out = [] := by simpa using c26
              refine pwp_then fun N27 hN27 => ?_
              refine pwp_reg fun R28 hR28 => ?_
              refine pops_to rfl fun M hM => ?_
              simp only [pop, St.eval, constSlot, upd_at, Nat.reduceEqDiff, if_true, if_false, eq_self, true_and, and_true, str_list, str_size, str_app, str_cut, str_get, e0_8, e0_9, e0_10, e0_4, hget, Int.toNat_natCast]
              refine hM _ _ ?_
              clear hM M
              refine pops_to rfl fun M hM => ?_
              simp only [pop, St.eval, constSlot, upd_at, Nat.reduceEqDiff, if_true, if_false, eq_self, true_and, and_true, str_list, str_size, str_app, str_cut, str_get, e0_8, e0_9, e0_10, e0_4, hget, Int.toNat_natCast]
              refine hM _ _ ?_
              clear hM M
              refine pops_done (hR28 _ ?_)
              clear hR28 R28
              try simp only [thenK, scopeK]
              refine hN27 _ ?_
              clear hN27 N27
              refine pwp_ret ?_
              simp only [thenK, blockK, scopeK, bodyK]
              clear hN24 N24 hN11 N11 hN5 N5
              exact ⟨_, rfl, by
                have hn : cleanL [] (spl 47 s) = none := cleanL_up0 hx h0 h1 h2 (by rw [hne] at hx0_1; exact hx0_1)
                have e : cleanR s = ([], 3) := by rw [cleanR, hn]
                rw [e]
                exact endKeeps2 hk0 rfl⟩
            · skip
              have hne : ¬ out = [] := by simpa using c26
              have hpos : 0 < out.length := List.length_pos_iff.2 hne
              have hwp := wrap_pred (n := out.length) hpos (by omega)
              have hwe : ((out.length - 1 : Nat) : Int) = (out.length : Int) - 1 := by omega
              refine pwp_skip ?_
              try simp only [thenK, scopeK]
              refine hN24 _ ?_
              clear hN24 N24
              refine pwp_reg fun R29 hR29 => ?_
              refine pops_to rfl fun M hM => ?_
              simp only [pop, St.eval, constSlot, upd_at, Nat.reduceEqDiff, if_true, if_false, eq_self, true_and, and_true, str_list, str_size, str_app, str_cut, str_get, e0_8, e0_9, e0_10, e0_4, hget, Int.toNat_natCast]
              refine hM _ _ ?_
              clear hM M
              refine pops_to rfl fun M hM => ?_
              simp only [pop, St.eval, constSlot, upd_at, Nat.reduceEqDiff, if_true, if_false, eq_self, true_and, and_true, str_list, str_size, str_app, str_cut, str_get, e0_8, e0_9, e0_10, e0_4, hget, Int.toNat_natCast]
              refine hM _ _ ?_
              clear hM M
              refine pops_to rfl fun M hM => ?_
              simp only [pop, St.eval, constSlot, upd_at, Nat.reduceEqDiff, if_true, if_false, popCall, List.toList_toArray, List.map_cons, List.map_nil, popBuiltin, eq_self, true_and, and_true, str_list, str_size, str_app, str_cut, str_get, e0_8, e0_9, e0_10, e0_4, hget, Int.toNat_natCast]
              refine out_len Tryd.underlying49 ho (hM _ _ ?_)
              clear hM M
              refine pops_to rfl fun M hM => ?_
              simp only [pop, St.eval, constSlot, upd_at, Nat.reduceEqDiff, if_true, if_false, popBin, binK, intK, strK, eqK, eq_self, true_and, and_true, str_list, str_size, str_app, str_cut, str_get, e0_8, e0_9, e0_10, e0_4, hget, Int.toNat_natCast, hwp]
              refine hM _ _ ?_
              clear hM M
              refine pops_to rfl fun M hM => ?_
              simp only [pop, St.eval, constSlot, upd_at, Nat.reduceEqDiff, if_true, if_false, Option.map_none, Option.map_some, eq_self, true_and, and_true, str_list, str_size, str_app, str_cut, str_get, e0_8, e0_9, e0_10, e0_4, hget, Int.toNat_natCast]
              refine out_cut Tryd.underlying49 sz9 ho hne hwe fun sl2 ho2 => hM _ _ ?_
              clear hM M
              refine pops_to rfl fun M hM => ?_
              simp only [pop, St.eval, constSlot, upd_at, Nat.reduceEqDiff, if_true, if_false, eq_self, true_and, and_true, str_list, str_size, str_app, str_cut, str_get, e0_8, e0_9, e0_10, e0_4, hget, Int.toNat_natCast]
              refine hM _ _ ?_
              clear hM M
              refine pops_done (hR29 _ ?_)
              clear hR29 R29
              try simp only [blockK, thenK, scopeK]
              try simp only [blockK, thenK, scopeK]
              try simp only [thenK, scopeK]
              refine hN11 _ ?_
              clear hN11 N11
              refine pwp_reg fun R30 hR30 => ?_
              refine pops_to rfl fun M hM => ?_
              simp only [pop, St.eval, constSlot, upd_at, Nat.reduceEqDiff, if_true, if_false, popBin, binK, intK, strK, eqK, eq_self, true_and, and_true, str_list, str_size, str_app, str_cut, str_get, e0_8, e0_9, e0_10, e0_4, hget, Int.toNat_natCast]
              refine hM _ _ ?_
              clear hM M
              refine pops_to rfl fun M hM => ?_
              simp only [pop, St.eval, constSlot, upd_at, Nat.reduceEqDiff, if_true, if_false, eq_self, true_and, and_true, str_list, str_size, str_app, str_cut, str_get, e0_8, e0_9, e0_10, e0_4, hget, Int.toNat_natCast]
              refine hM _ _ ?_
              clear hM M
              refine pops_done (hR30 _ ?_)
              clear hR30 R30
              try simp only [thenK, scopeK]
              exact ⟨_, by omega, _, .refl _ _, i + 1, sl2, out.dropLast, rfl, by omega, cleanL_up hx h0 h1 h2 hne hx0_1, by rw [List.length_dropLast]; omega, ⟨hk0, ho2⟩, by simp only [upd_at, Nat.reduceEqDiff, if_true, if_false, e0_8, e0_9, e0_10, e0_4, hget, Int.toNat_natCast], by simp only [upd_at, Nat.reduceEqDiff, if_true, if_false, e0_8, e0_9, e0_10, e0_4, hget, Int.toNat_natCast], by simp only [upd_at, Nat.reduceEqDiff, if_true, if_false, e0_10]; rw [wrap_succ (by omega)], by simp only [upd_at, Nat.reduceEqDiff, if_true, if_false, e0_8, e0_9, e0_10, e0_4, hget, Int.toNat_natCast]⟩
          · skip
            have h2 : ¬ x = [46, 46] := by simpa using c22
            refine pwp_reg fun R31 hR31 => ?_
            refine pops_to rfl fun M hM => ?_
            simp only [pop, St.eval, constSlot, upd_at, Nat.reduceEqDiff, if_true, if_false, eq_self, true_and, and_true, str_list, str_size, str_app, str_cut, str_get, e0_8, e0_9, e0_10, e0_4, hget, Int.toNat_natCast]
            refine hM _ _ ?_
            clear hM M
            refine pops_to rfl fun M hM => ?_
            simp only [pop, St.eval, constSlot, upd_at, Nat.reduceEqDiff, if_true, if_false, eq_self, true_and, and_true, str_list, str_size, str_app, str_cut, str_get, e0_8, e0_9, e0_10, e0_4, hget, Int.toNat_natCast]
            refine hM _ _ ?_
            clear hM M
            refine pops_to rfl fun M hM => ?_
            simp only [pop, St.eval, constSlot, upd_at, Nat.reduceEqDiff, if_true, if_false, popBuildSlice, slotCells, List.toList_toArray, List.map_cons, List.map_nil, List.mapM_cons, List.mapM_nil, Option.bind_eq_bind, Option.bind_some, Option.pure_def, Tryd.underlying49, sz9, ze9, by9, eq_self, true_and, and_true, str_list, str_size, str_app, str_cut, str_get, e0_8, e0_9, e0_10, e0_4, hget, Int.toNat_natCast]
            refine ⟨by decide, by decide, rfl, rfl, by simp, by decide, rfl, hM _ _ ?_⟩
            clear hM M
            refine pops_to rfl fun M hM => ?_
            simp only [pop, St.eval, constSlot, upd_at, Nat.reduceEqDiff, if_true, if_false, popCall, List.toList_toArray, List.map_cons, List.map_nil, popBuiltin, eq_self, true_and, and_true, str_list, str_size, str_app, str_cut, str_get, e0_8, e0_9, e0_10, e0_4, hget, Int.toNat_natCast]
            refine out_app hb Tryd.underlying49 sz9 by9 ze9 rfl ho hk0 ⟨by omega, by omega⟩ fun sl2 hp2 ho2 hk2 => hM _ _ ?_
            clear hM M
            refine pops_to rfl fun M hM => ?_
            simp only [pop, St.eval, constSlot, upd_at, Nat.reduceEqDiff, if_true, if_false, eq_self, true_and, and_true, str_list, str_size, str_app, str_cut, str_get, e0_8, e0_9, e0_10, e0_4, hget, Int.toNat_natCast]
            refine hM _ _ ?_
            clear hM M
            refine pops_done (hR31 _ ?_)
            clear hR31 R31
            try simp only [blockK, thenK, scopeK]
            try simp only [blockK, thenK, scopeK]
            try simp only [thenK, scopeK]
            refine hN11 _ ?_
            clear hN11 N11
            refine pwp_reg fun R32 hR32 => ?_
            refine pops_to rfl fun M hM => ?_
            simp only [pop, St.eval, constSlot, upd_at, Nat.reduceEqDiff, if_true, if_false, popBin, binK, intK, strK, eqK, eq_self, true_and, and_true, str_list, str_size, str_app, str_cut, str_get, e0_8, e0_9, e0_10, e0_4, hget, Int.toNat_natCast]
            refine hM _ _ ?_
            clear hM M
            refine pops_to rfl fun M hM => ?_
            simp only [pop, St.eval, constSlot, upd_at, Nat.reduceEqDiff, if_true, if_false, eq_self, true_and, and_true, str_list, str_size, str_app, str_cut, str_get, e0_8, e0_9, e0_10, e0_4, hget, Int.toNat_natCast]
            refine hM _ _ ?_
            clear hM M
            refine pops_done (hR32 _ ?_)
            clear hR32 R32
            try simp only [thenK, scopeK]
            exact ⟨_, by omega, _, .refl _ _, i + 1, sl2, out ++ [x], rfl, by omega, cleanL_add hx h0 h1 h2 hx0_1, by simp; omega, ⟨hk2, ho2⟩, by simp only [upd_at, Nat.reduceEqDiff, if_true, if_false, e0_8, e0_9, e0_10, e0_4, hget, Int.toNat_natCast], by simp only [upd_at, Nat.reduceEqDiff, if_true, if_false, e0_8, e0_9, e0_10, e0_4, hget, Int.toNat_natCast], by simp only [upd_at, Nat.reduceEqDiff, if_true, if_false, e0_10]; rw [wrap_succ (by omega)], by simp only [upd_at, Nat.reduceEqDiff, if_true, if_false, e0_8, e0_9, e0_10, e0_4, hget, Int.toNat_natCast]⟩
    · skip
      have hi := of_decide_eq_false c11
      refine pwp_exit ?_
      try simp only [thenK, blockK, scopeK, if_true, Nat.reduceEqDiff, if_false]
      clear hN10 N10
      try simp only [blockK, scopeK, if_true, Nat.reduceEqDiff, if_false, thenK]
      try simp only [thenK, scopeK]
      refine hN5 _ ?_
      clear hN5 N5
      refine pwp_then fun N33 hN33 => ?_
      have hcl : cleanL [] (spl 47 s) = some out := by
        rw [List.drop_eq_nil_of_le (by omega), cleanL] at hx0_1
        exact hx0_1.symm
      have hbk := cleanL_bulk _ _ _ hcl
      have hjo := join_bulk 47 out
      have hz0 : pvWss (pstrs []) = 0 := rfl
      refine pwp_freeze 4 (by simp only [upd_at, Nat.reduceEqDiff, if_true, if_false, e0_4]) ho hb hk0 fun hp9 hk9 => ?_
      refine pwp_reg fun R34 hR34 => ?_
      refine pops_to rfl fun M hM => ?_
      simp only [pop, St.eval, constSlot, upd_at, Nat.reduceEqDiff, if_true, if_false, eq_self, true_and, and_true, str_list, str_size, str_app, str_cut, str_get, e0_8, e0_9, e0_10, e0_4]
      refine hM _ _ ?_
      clear hM M
      refine pops_to rfl fun M hM => ?_
      simp only [pop, St.eval, constSlot, upd_at, Nat.reduceEqDiff, if_true, if_false, popCall, List.toList_toArray, List.map_cons, List.map_nil, svs, List.mapM_cons, List.mapM_nil, Option.bind_eq_bind, Option.bind_some, Option.pure_def, List.append_nil, List.cons_append, List.nil_append, eq_self, true_and, and_true, str_list, str_size, str_app, str_cut, str_get, e0_8, e0_9, e0_10, e0_4]
      refine PFun.use (names_join_fun W0 false out (by omega) (by omega)) fun h8 s8 => hM _ _ ?_
      replace hk9 := hk9.trans s8.keeps
      clear hM M
      refine pops_to rfl fun M hM => ?_
      simp only [pop, St.eval, constSlot, upd_at, Nat.reduceEqDiff, if_true, if_false, List.getElem?_toArray, List.getElem?_cons_zero, List.getElem?_cons_succ, eq_self, true_and, and_true, str_list, str_size, str_app, str_cut, str_get, e0_8, e0_9, e0_10, e0_4]
      refine hM _ _ ?_
      clear hM M
      refine pops_to rfl fun M hM => ?_
      simp only [pop, St.eval, constSlot, upd_at, Nat.reduceEqDiff, if_true, if_false, List.getElem?_toArray, List.getElem?_cons_zero, List.getElem?_cons_succ, eq_self, true_and, and_true, str_list, str_size, str_app, str_cut, str_get, e0_8, e0_9, e0_10, e0_4]
      refine hM _ _ ?_
      clear hM M
      refine pops_to rfl fun M hM => ?_
      simp only [pop, St.eval, constSlot, upd_at, Nat.reduceEqDiff, if_true, if_false, eq_self, true_and, and_true, str_list, str_size, str_app, str_cut, str_get, e0_8, e0_9, e0_10, e0_4]
      refine hM _ _ ?_
      clear hM M
      refine pops_to rfl fun M hM => ?_
      simp only [pop, St.eval, constSlot, upd_at, Nat.reduceEqDiff, if_true, if_false, eq_self, true_and, and_true, str_list, str_size, str_app, str_cut, str_get, e0_8, e0_9, e0_10, e0_4]
      refine hM _ _ ?_
      clear hM M
      refine pops_done (hR34 _ ?_)
      clear hR34 R34
      try simp only [thenK, scopeK]
      refine hN33 _ ?_
      clear hN33 N33
      refine pwp_ret ?_
      simp only [thenK, blockK, scopeK, bodyK]
      exact ⟨_, rfl, by
        have e : cleanR s = joinR out := by rw [cleanR, hcl]
        rw [e]
        exact endKeeps2 hk9 rfl⟩

theorem nm77 : (Tryd.f77.name == "runtime.NumGoroutine") = false := by kernel_rfl
theorem cleanC_fun (W0 : World) (s : List UInt8) :
    PFun Tryd.prog W0 77 [.one (pstr s)] (.sv (.one (pbool (!isNameB s)))) := by
  intro h
  refine pcalls1 (n := 6) Tryd.func77 rfl nm77 rfl fun hb => ?_
  refine pwp_then fun N1 hN1 => ?_
  refine pwp_reg fun R2 hR2 => ?_
  refine pops_to rfl fun M hM => ?_
  simp only [pop, St.eval, constSlot, upd_at, Nat.reduceEqDiff, if_true, if_false, eq_self, true_and, and_true, str_list, str_size, str_app, str_cut, str_get]
  refine hM _ _ ?_
  clear hM M
  refine pops_done (hR2 _ ?_)
  clear hR2 R2
  try simp only [thenK, scopeK]
  refine hN1 _ ?_
  clear hN1 N1
  refine pwp_then fun N3 hN3 => ?_
  refine pwp_reg fun R4 hR4 => ?_
  refine pops_to rfl fun M hM => ?_
  simp only [pop, St.eval, constSlot, upd_at, Nat.reduceEqDiff, if_true, if_false, eq_self, true_and, and_true, str_list, str_size, str_app, str_cut, str_get]
  refine hM _ _ ?_
  clear hM M
  refine pops_to rfl fun M hM => ?_
  simp only [pop, St.eval, constSlot, upd_at, Nat.reduceEqDiff, if_true, if_false, popCall, List.toList_toArray, List.map_cons, List.map_nil, svs, List.mapM_cons, List.mapM_nil, Option.bind_eq_bind, Option.bind_some, Option.pure_def, List.append_nil, List.cons_append, List.nil_append, eq_self, true_and, and_true, str_list, str_size, str_app, str_cut, str_get]
  refine PFun.use (isNameRef_fun W0 s) fun h1 s1 => hM _ _ ?_
  replace s1 := Same.trans (Same.refl _) s1
  clear hM M
  refine pops_to rfl fun M hM => ?_
  simp only [pop, St.eval, constSlot, upd_at, Nat.reduceEqDiff, if_true, if_false, unK, eq_self, true_and, and_true, str_list, str_size, str_app, str_cut, str_get]
  refine hM _ _ ?_
  clear hM M
  refine pops_to rfl fun M hM => ?_
  simp only [pop, St.eval, constSlot, upd_at, Nat.reduceEqDiff, if_true, if_false, eq_self, true_and, and_true, str_list, str_size, str_app, str_cut, str_get]
  refine hM _ _ ?_
  clear hM M
  refine pops_done (hR4 _ ?_)
  clear hR4 R4
  try simp only [thenK, scopeK]
  refine hN3 _ ?_
  clear hN3 N3
  refine pwp_ret ?_
  simp only [thenK, blockK, scopeK, bodyK]
  refine ⟨_, rfl, endFun s1 ?_⟩
  try simp only [upd_at, Nat.reduceEqDiff, if_true, if_false]
  all_goals
    rfl

theorem nm36 : (Tryd.f36.name == "runtime.NumGoroutine") = false := by kernel_rfl
theorem cleanRef_fun (W0 : World) (hm : HasMax W0) (s : List UInt8) (hs : s.length ≤ 1048576) :
    PFun Tryd.prog W0 36 [.one (pstr s)] (.tup [.one (pstr (cleanR s).1), .one (pint (cleanR s).2)]) := by
  intro h
  have hbs := spl_bulk 47 s
  have hjb := join_bulk 47 (spl 47 s)
  refine pcalls1 (n := 42) Tryd.func36 rfl nm36 rfl fun hb => ?_
  refine pwp_then fun N1 hN1 => ?_
  refine pwp_reg fun R2 hR2 => ?_
  refine pops_to rfl fun M hM => ?_
  simp only [pop, St.eval, constSlot, upd_at, Nat.reduceEqDiff, if_true, if_false, eq_self, true_and, and_true, str_list, str_size, str_app, str_cut, str_get]
  refine hM _ _ ?_
  clear hM M
  refine pops_to rfl fun M hM => ?_
  simp only [pop, St.eval, constSlot, upd_at, Nat.reduceEqDiff, if_true, if_false, eq_self, true_and, and_true, str_list, str_size, str_app, str_cut, str_get]
  refine hM _ _ ?_
  clear hM M
  refine pops_done (hR2 _ ?_)
  clear hR2 R2
  try simp only [thenK, scopeK]
  refine hN1 _ ?_
  clear hN1 N1
  refine pwp_then fun N3 hN3 => ?_
  refine pwp_reg fun R4 hR4 => ?_
  refine pops_to rfl fun M hM => ?_
  simp only [pop, St.eval, constSlot, upd_at, Nat.reduceEqDiff, if_true, if_false, eq_self, true_and, and_true, str_list, str_size, str_app, str_cut, str_get]
  refine hM _ _ ?_
  clear hM M
  refine pops_done (hR4 _ ?_)
  clear hR4 R4
  try simp only [thenK, scopeK]
  refine hN3 _ ?_
  clear hN3 N3
  refine pwp_then fun N5 hN5 => ?_
  refine pwp_then fun N6 hN6 => ?_
  refine pwp_reg fun R7 hR7 => ?_
  refine pops_to rfl fun M hM => ?_
  simp only [pop, St.eval, constSlot, upd_at, Nat.reduceEqDiff, if_true, if_false, eq_self, true_and, and_true, str_list, str_size, str_app, str_cut, str_get]
  refine hM _ _ ?_
  clear hM M
  refine pops_to rfl fun M hM => ?_
  simp only [pop, St.eval, constSlot, upd_at, Nat.reduceEqDiff, if_true, if_false, popCall, List.toList_toArray, List.map_cons, List.map_nil, svs, List.mapM_cons, List.mapM_nil, Option.bind_eq_bind, Option.bind_some, Option.pure_def, List.append_nil, List.cons_append, List.nil_append, eq_self, true_and, and_true, str_list, str_size, str_app, str_cut, str_get]
  refine PFun.use (split_fun W0 hm s 47 (by omega)) fun h1 s1 => hM _ _ ?_
  replace s1 := Same.trans (Same.refl _) s1
  clear hM M
  refine pops_to rfl fun M hM => ?_
  simp only [pop, St.eval, constSlot, upd_at, Nat.reduceEqDiff, if_true, if_false, popCall, List.toList_toArray, List.map_cons, List.map_nil, popBuiltin, popLen, lenOfSlot, List.length_map, Tryd.underlying49, eq_self, true_and, and_true, str_list, str_size, str_app, str_cut, str_get]
  refine hM _ _ ?_
  clear hM M
  refine pops_to rfl fun M hM => ?_
  simp only [pop, St.eval, constSlot, upd_at, Nat.reduceEqDiff, if_true, if_false, eq_self, true_and, and_true, str_list, str_size, str_app, str_cut, str_get]
  refine hM _ _ ?_
  clear hM M
  refine pops_done (hR7 _ ?_)
  clear hR7 R7
  try simp only [thenK, scopeK]
  refine hN6 _ ?_
  clear hN6 N6
  refine pwp_block ?_
  refine pwp_loop (fun k σ => ∃ (i : Nat), ∃ (sl : Slot), ∃ (out : List (List UInt8)), (k = (spl 47 s).length - i) ∧ (i ≤ (spl 47 s).length) ∧ (cleanL out ((spl 47 s).drop i) = cleanL [] (spl 47 s)) ∧ (out.length ≤ i) ∧ (Keeps h σ.hp ∧ OutIs 9 h σ.hp sl out) ∧ (σ.env 9 = .sv (.one (.ro true 1 (pstrs (spl 47 s))))) ∧ (σ.env 10 = .sv (.one (pint ((spl 47 s).length : Nat)))) ∧ (σ.env 11 = .sv (.one (pint (i : Nat)))) ∧ (σ.env 4 = sl)) _ ⟨_, .refl _ _, 0, (.sv (.one (.val (.slice none 0 0)))), [], rfl, ?_⟩ ?_
  · exact ⟨Nat.zero_le _, rfl, Nat.le_refl _, ⟨s1.keeps, .inl ⟨rfl, rfl⟩⟩, by simp only [upd_at, Nat.reduceEqDiff, if_true, if_false], by simp only [upd_at, Nat.reduceEqDiff, if_true, if_false], by simp only [upd_at, Nat.reduceEqDiff, if_true, if_false]; rfl, by simp only [upd_at, Nat.reduceEqDiff, if_true, if_false]⟩
  · rintro k ⟨e, hp0⟩ ⟨i, sl, out, hk0, hx0_0, hx0_1, hx0_2, sl0, e0_9, e0_10, e0_11, e0_4⟩
    simp only at sl0 e0_9 e0_10 e0_11 e0_4
    obtain ⟨hk0, ho⟩ := sl0
    refine pwp_then fun N8 hN8 => ?_
    refine pwp_reg fun R9 hR9 => ?_
    refine pops_to rfl fun M hM => ?_
    simp only [pop, St.eval, constSlot, upd_at, Nat.reduceEqDiff, if_true, if_false, popBin, binK, intK, strK, eqK, eq_self, true_and, and_true, str_list, str_size, str_app, str_cut, str_get, e0_9, e0_10, e0_11, e0_4]
    refine hM _ _ ?_
    clear hM M
    refine pops_done (hR9 _ ?_)
    clear hR9 R9
    try simp only [thenK, scopeK]
    refine hN8 _ ?_
    clear hN8 N8
    refine pwp_then fun N10 hN10 => ?_
    refine pwp_cond (by simp only [St.eval, upd_at, Nat.reduceEqDiff, if_true, if_false, e0_9, e0_10, e0_11, e0_4] <;> rfl) (fun c12 => ?_) (fun c12 => ?_)
    · skip
      have hi : i < (spl 47 s).length := by have := of_decide_eq_true c12; omega
      obtain ⟨x, hx⟩ : ∃ x, (spl 47 s)[i]? = some x := ⟨_, List.getElem?_eq_getElem hi⟩
      have hget : (pstrs (spl 47 s))[i]? = some [pstr x] := by simp only [List.getElem?_map, hx, Option.map_some]
      refine pwp_skip ?_
      try simp only [thenK, scopeK]
      refine hN10 _ ?_
      clear hN10 N10
      refine pwp_then fun N11 hN11 => ?_
      refine pwp_block ?_
      refine pwp_then fun N12 hN12 => ?_
      refine pwp_reg fun R13 hR13 => ?_
      refine pops_to rfl fun M hM => ?_
      simp only [pop, St.eval, constSlot, upd_at, Nat.reduceEqDiff, if_true, if_false, popIndexAddr, Tryd.underlying49, sz9, eq_self, true_and, and_true, str_list, str_size, str_app, str_cut, str_get, e0_9, e0_10, e0_11, e0_4, hget, Int.toNat_natCast]
      refine ⟨Int.natCast_nonneg _, hM _ _ ?_⟩
      clear hM M
      refine pops_to rfl fun M hM => ?_
      simp only [pop, St.eval, constSlot, upd_at, Nat.reduceEqDiff, if_true, if_false, popLoad, loadK, isAggD, List.drop_zero, List.getElem?_toArray, List.getElem?_cons_zero, List.getElem?_cons_succ, Bool.false_eq_true, Tryd.underlying9, sz9, eq_self, true_and, and_true, str_list, str_size, str_app, str_cut, str_get, e0_9, e0_10, e0_11, e0_4, hget, Int.toNat_natCast]
      refine hM _ _ ?_
      clear hM M
      refine pops_to rfl fun M hM => ?_
      simp only [pop, St.eval, constSlot, upd_at, Nat.reduceEqDiff, if_true, if_false, eq_self, true_and, and_true, str_list, str_size, str_app, str_cut, str_get, e0_9, e0_10, e0_11, e0_4, hget, Int.toNat_natCast]
      refine hM _ _ ?_
      clear hM M
      refine pops_done (hR13 _ ?_)
      clear hR13 R13
      try simp only [thenK, scopeK]
      refine hN12 _ ?_
      clear hN12 N12
      refine pwp_then fun N14 hN14 => ?_
      refine pwp_reg fun R15 hR15 => ?_
      refine pops_to rfl fun M hM => ?_
      simp only [pop, St.eval, constSlot, upd_at, Nat.reduceEqDiff, if_true, if_false, eq_self, true_and, and_true, str_list, str_size, str_app, str_cut, str_get, e0_9, e0_10, e0_11, e0_4, hget, Int.toNat_natCast]
      refine hM _ _ ?_
      clear hM M
      refine pops_done (hR15 _ ?_)
      clear hR15 R15
      try simp only [thenK, scopeK]
      refine hN14 _ ?_
      clear hN14 N14
      refine pwp_block ?_
      refine pwp_then fun N16 hN16 => ?_
      refine pwp_then fun N17 hN17 => ?_
      refine pwp_reg fun R18 hR18 => ?_
      refine pops_to rfl fun M hM => ?_
      simp only [pop, St.eval, constSlot, upd_at, Nat.reduceEqDiff, if_true, if_false, popBin, binK, intK, strK, eqK, Tryd.underlying9, isPtr, eq_self, true_and, and_true, str_list, str_size, str_app, str_cut, str_get, e0_9, e0_10, e0_11, e0_4, hget, Int.toNat_natCast]
      refine hM _ _ ?_
      clear hM M
      refine pops_to rfl fun M hM => ?_
      simp only [pop, St.eval, constSlot, upd_at, Nat.reduceEqDiff, if_true, if_false, eq_self, true_and, and_true, str_list, str_size, str_app, str_cut, str_get, e0_9, e0_10, e0_11, e0_4, hget, Int.toNat_natCast]
      refine hM _ _ ?_
      clear hM M
      refine pops_done (hR18 _ ?_)
      clear hR18 R18
      try simp only [thenK, scopeK]
      refine hN17 _ ?_
      clear hN17 N17
      refine pwp_cond (by simp only [St.eval, upd_at, Nat.reduceEqDiff, if_true, if_false, e0_9, e0_10, e0_11, e0_4, hget, Int.toNat_natCast] <;> rfl) (fun c20 => ?_) (fun c20 => ?_)
      · skip
        refine pwp_skip ?_
        try simp only [thenK, scopeK]
        refine hN16 _ ?_
        clear hN16 N16
        refine pwp_cond_true (by simp only [St.eval, upd_at, Nat.reduceEqDiff, if_true, if_false, e0_9, e0_10, e0_11, e0_4, hget, Int.toNat_natCast, c20] <;> rfl) ?_
        refine pwp_skip ?_
        try simp only [blockK, thenK, scopeK]
        try simp only [blockK, thenK, scopeK]
        try simp only [thenK, scopeK]
        refine hN11 _ ?_
        clear hN11 N11
        refine pwp_reg fun R19 hR19 => ?_
        refine pops_to rfl fun M hM => ?_
        simp only [pop, St.eval, constSlot, upd_at, Nat.reduceEqDiff, if_true, if_false, popBin, binK, intK, strK, eqK, eq_self, true_and, and_true, str_list, str_size, str_app, str_cut, str_get, e0_9, e0_10, e0_11, e0_4, hget, Int.toNat_natCast, c20]
        refine hM _ _ ?_
        clear hM M
        refine pops_to rfl fun M hM => ?_
        simp only [pop, St.eval, constSlot, upd_at, Nat.reduceEqDiff, if_true, if_false, eq_self, true_and, and_true, str_list, str_size, str_app, str_cut, str_get, e0_9, e0_10, e0_11, e0_4, hget, Int.toNat_natCast, c20]
        refine hM _ _ ?_
        clear hM M
        refine pops_done (hR19 _ ?_)
        clear hR19 R19
        try simp only [thenK, scopeK]
        exact ⟨_, by omega, _, .refl _ _, i + 1, sl, out, rfl, by omega, cleanL_skip hx (by simp at c20; simp [c20]) hx0_1, by omega, ⟨hk0, ho⟩, by simp only [upd_at, Nat.reduceEqDiff, if_true, if_false, e0_9, e0_10, e0_11, e0_4, hget, Int.toNat_natCast, c20], by simp only [upd_at, Nat.reduceEqDiff, if_true, if_false, e0_9, e0_10, e0_11, e0_4, hget, Int.toNat_natCast, c20], by simp only [upd_at, Nat.reduceEqDiff, if_true, if_false, e0_11]; rw [wrap_succ (by omega)], by simp only [upd_at, Nat.reduceEqDiff, if_true, if_false, e0_9, e0_10, e0_11, e0_4, hget, Int.toNat_natCast, c20]⟩
      · skip
        first
          | have h0 : ¬ x = [] := by simpa using c20
          | have h1 : ¬ x = [46] := by simpa using c20
        refine pwp_reg fun R20 hR20 => ?_
        refine pops_to rfl fun M hM => ?_
        simp only [pop, St.eval, constSlot, upd_at, Nat.reduceEqDiff, if_true, if_false, popBin, binK, intK, strK, eqK, Tryd.underlying9, isPtr, eq_self, true_and, and_true, str_list, str_size, str_app, str_cut, str_get, e0_9, e0_10, e0_11, e0_4, hget, Int.toNat_natCast]
        refine hM _ _ ?_
        clear hM M
        refine pops_to rfl fun M hM => ?_
        simp only [pop, St.eval, constSlot, upd_at, Nat.reduceEqDiff, if_true, if_false, eq_self, true_and, and_true, str_list, str_size, str_app, str_cut, str_get, e0_9, e0_10, e0_11, e0_4, hget, Int.toNat_natCast]
        refine hM _ _ ?_
        clear hM M
        refine pops_done (hR20 _ ?_)
        clear hR20 R20
        try simp only [thenK, scopeK]
        refine hN16 _ ?_
        clear hN16 N16
        refine pwp_cond (by simp only [St.eval, upd_at, Nat.reduceEqDiff, if_true, if_false, e0_9, e0_10, e0_11, e0_4, hget, Int.toNat_natCast] <;> rfl) (fun c20 => ?_) (fun c20 => ?_)
        · skip
          refine pwp_skip ?_
          try simp only [blockK, thenK, scopeK]
          try simp only [blockK, thenK, scopeK]
          try simp only [thenK, scopeK]
          refine hN11 _ ?_
          clear hN11 N11
          refine pwp_reg fun R21 hR21 => ?_
          refine pops_to rfl fun M hM => ?_
          simp only [pop, St.eval, constSlot, upd_at, Nat.reduceEqDiff, if_true, if_false, popBin, binK, intK, strK, eqK, eq_self, true_and, and_true, str_list, str_size, str_app, str_cut, str_get, e0_9, e0_10, e0_11, e0_4, hget, Int.toNat_natCast, c20]
          refine hM _ _ ?_
          clear hM M
          refine pops_to rfl fun M hM => ?_
          simp only [pop, St.eval, constSlot, upd_at, Nat.reduceEqDiff, if_true, if_false, eq_self, true_and, and_true, str_list, str_size, str_app, str_cut, str_get, e0_9, e0_10, e0_11, e0_4, hget, Int.toNat_natCast, c20]
          refine hM _ _ ?_
          clear hM M
          refine pops_done (hR21 _ ?_)
          clear hR21 R21
          try simp only [thenK, scopeK]
          exact ⟨_, by omega, _, .refl _ _, i + 1, sl, out, rfl, by omega, cleanL_skip hx (by simp at c20; simp [c20]) hx0_1, by omega, ⟨hk0, ho⟩, by simp only [upd_at, Nat.reduceEqDiff, if_true, if_false, e0_9, e0_10, e0_11, e0_4, hget, Int.toNat_natCast, c20], by simp only [upd_at, Nat.reduceEqDiff, if_true, if_false, e0_9, e0_10, e0_11, e0_4, hget, Int.toNat_natCast, c20], by simp only [upd_at, Nat.reduceEqDiff, if_true, if_false, e0_11]; rw [wrap_succ (by omega)], by simp only [upd_at, Nat.reduceEqDiff, if_true, if_false, e0_9, e0_10, e0_11, e0_4, hget, Int.toNat_natCast, c20]⟩
        · skip
          first
            | have h0 : ¬ x = [] := by simpa using c20
            | have h1 : ¬ x = [46] := by simpa using c20
          refine pwp_then fun N22 hN22 => ?_
          refine pwp_reg fun R23 hR23 => ?_
          refine pops_to rfl fun M hM => ?_
          simp only [pop, St.eval, constSlot, upd_at, Nat.reduceEqDiff, if_true, if_false, popBin, binK, intK, strK, eqK, Tryd.underlying9, isPtr, eq_self, true_and, and_true, str_list, str_size, str_app, str_cut, str_get, e0_9, e0_10, e0_11, e0_4, hget, Int.toNat_natCast]
          refine hM _ _ ?_
          clear hM M
          refine pops_to rfl fun M hM => ?_
          simp only [pop, St.eval, constSlot, upd_at, Nat.reduceEqDiff, if_true, if_false, eq_self, true_and, and_true, str_list, str_size, str_app, str_cut, str_get, e0_9, e0_10, e0_11, e0_4, hget, Int.toNat_natCast]
          refine hM _ _ ?_
          clear hM M
          refine pops_done (hR23 _ ?_)
          clear hR23 R23
          try simp only [thenK, scopeK]
          refine hN22 _ ?_
          clear hN22 N22
          refine pwp_cond (by simp only [St.eval, upd_at, Nat.reduceEqDiff, if_true, if_false, e0_9, e0_10, e0_11, e0_4, hget, Int.toNat_natCast] <;> rfl) (fun c23 => ?_) (fun c23 => ?_)
          · skip
            have h2 : x = [46, 46] := by simpa using c23
            refine pwp_then fun N24 hN24 => ?_
            refine pwp_then fun N25 hN25 => ?_
            refine pwp_reg fun R26 hR26 => ?_
            refine pops_to rfl fun M hM => ?_
            simp only [pop, St.eval, constSlot, upd_at, Nat.reduceEqDiff, if_true, if_false, eq_self, true_and, and_true, str_list, str_size, str_app, str_cut, str_get, e0_9, e0_10, e0_11, e0_4, hget, Int.toNat_natCast]
            refine hM _ _ ?_
            clear hM M
            refine pops_to rfl fun M hM => ?_
            simp only [pop, St.eval, constSlot, upd_at, Nat.reduceEqDiff, if_true, if_false, popCall, List.toList_toArray, List.map_cons, List.map_nil, popBuiltin, eq_self, true_and, and_true, str_list, str_size, str_app, str_cut, str_get, e0_9, e0_10, e0_11, e0_4, hget, Int.toNat_natCast]
            refine out_len Tryd.underlying49 ho (hM _ _ ?_)
            clear hM M
            refine pops_to rfl fun M hM => ?_
            simp only [pop, St.eval, constSlot, upd_at, Nat.reduceEqDiff, if_true, if_false, popBin, binK, intK, strK, eqK, Tryd.underlying3, isPtr, eq_self, true_and, and_true, str_list, str_size, str_app, str_cut, str_get, e0_9, e0_10, e0_11, e0_4, hget, Int.toNat_natCast]
            refine hM _ _ ?_
            clear hM M
            refine pops_done (hR26 _ ?_)
            clear hR26 R26
            try simp only [thenK, scopeK]
            refine hN25 _ ?_
            clear hN25 N25
            refine pwp_cond (by simp only [St.eval, upd_at, Nat.reduceEqDiff, if_true, if_false, e0_9, e0_10, e0_11, e0_4, hget, Int.toNat_natCast] <;> rfl) (fun c27 => ?_) (fun c27 => ?_)
            · skip
              have hne : out = [] := by simpa using c27
              refine pwp_then fun N27 hN27 => ?_
              refine pwp_reg fun R28 hR28 => ?_
              refine pops_to rfl fun M hM => ?_
              simp only [pop, St.eval, constSlot, upd_at, Nat.reduceEqDiff, if_true, if_false, eq_self, true_and, and_true, str_list, str_size, str_app, str_cut, str_get, e0_9, e0_10, e0_11, e0_4, hget, Int.toNat_natCast]
              refine hM _ _ ?_
              clear hM M
              refine pops_to rfl fun M hM => ?_
              simp only [pop, St.eval, constSlot, upd_at, Nat.reduceEqDiff, if_true, if_false, eq_self, true_and, and_true, str_list, str_size, str_app, str_cut, str_get, e0_9, e0_10, e0_11, e0_4, hget, Int.toNat_natCast]
              refine hM _ _ ?_
              clear hM M
              refine pops_done (hR28 _ ?_)
              clear hR28 R28
              try simp only [thenK, scopeK]
              refine hN27 _ ?_
              clear hN27 N27
              refine pwp_ret ?_
              simp only [thenK, blockK, scopeK, bodyK]
              clear hN24 N24 hN11 N11 hN5 N5
              exact ⟨_, rfl, by
                have hn : cleanL [] (spl 47 s) = none := cleanL_up0 hx h0 h1 h2 (by rw [hne] at hx0_1; exact hx0_1)
                have e : cleanR s = ([], 3) := by rw [cleanR, hn]
                rw [e]
                exact endKeeps2 hk0 rfl⟩
            · skip
              have hne : ¬ out = [] := by simpa using c27
              have hpos : 0 < out.length := List.length_pos_iff.2 hne
              have hwp := wrap_pred (n := out.length) hpos (by omega)
              have hwe : ((out.length - 1 : Nat) : Int) = (out.length : Int) - 1 := by omega
              refine pwp_skip ?_
              try simp only [thenK, scopeK]
              refine hN24 _ ?_
              clear hN24 N24
              refine pwp_reg fun R29 hR29 => ?_
              refine pops_to rfl fun M hM => ?_
              simp only [pop, St.eval, constSlot, upd_at, Nat.reduceEqDiff, if_true, if_false, eq_self, true_and, and_true, str_list, str_size, str_app, str_cut, str_get, e0_9, e0_10, e0_11, e0_4, hget, Int.toNat_natCast]
              refine hM _ _ ?_
              clear hM M
              refine pops_to rfl fun M hM => ?_
              simp only [pop, St.eval, constSlot, upd_at, Nat.reduceEqDiff, if_true, if_false, eq_self, true_and, and_true, str_list, str_size, str_app, str_cut, str_get, e0_9, e0_10, e0_11, e0_4, hget, Int.toNat_natCast]
              refine hM _ _ ?_
              clear hM M
              refine pops_to rfl fun M hM => ?_
              simp only [pop, St.eval, constSlot, upd_at, Nat.reduceEqDiff, if_true, if_false, popCall, List.toList_toArray, List.map_cons, List.map_nil, popBuiltin, eq_self, true_and, and_true, str_list, str_size, str_app, str_cut, str_get, e0_9, e0_10, e0_11, e0_4, hget, Int.toNat_natCast]
              refine out_len Tryd.underlying49 ho (hM _ _ ?_)
              clear hM M
              refine pops_to rfl fun M hM => ?_
              simp only [pop, St.eval, constSlot, upd_at, Nat.reduceEqDiff, if_true, if_false, popBin, binK, intK, strK, eqK, eq_self, true_and, and_true, str_list, str_size, str_app, str_cut, str_get, e0_9, e0_10, e0_11, e0_4, hget, Int.toNat_natCast, hwp]
              refine hM _ _ ?_
              clear hM M
              refine pops_to rfl fun M hM => ?_
              simp only [pop, St.eval, constSlot, upd_at, Nat.reduceEqDiff, if_true, if_false, Option.map_none, Option.map_some, eq_self, true_and, and_true, str_list, str_size, str_app, str_cut, str_get, e0_9, e0_10, e0_11, e0_4, hget, Int.toNat_natCast]
              refine out_cut Tryd.underlying49 sz9 ho hne hwe fun sl2 ho2 => hM _ _ ?_
              clear hM M
              refine pops_to rfl fun M hM => ?_
              simp only [pop, St.eval, constSlot, upd_at, Nat.reduceEqDiff, if_true, if_false, eq_self, true_and, and_true, str_list, str_size, str_app, str_cut, str_get, e0_9, e0_10, e0_11, e0_4, hget, Int.toNat_natCast]
              refine hM _ _ ?_
              clear hM M
              refine pops_done (hR29 _ ?_)
              clear hR29 R29
              try simp only [blockK, thenK, scopeK]
              try simp only [blockK, thenK, scopeK]
              try simp only [thenK, scopeK]
              refine hN11 _ ?_
              clear hN11 N11
              refine pwp_reg fun R30 hR30 => ?_
              refine pops_to rfl fun M hM => ?_
              simp only [pop, St.eval, constSlot, upd_at, Nat.reduceEqDiff, if_true, if_false, popBin, binK, intK, strK, eqK, eq_self, true_and, and_true, str_list, str_size, str_app, str_cut, str_get, e0_9, e0_10, e0_11, e0_4, hget, Int.toNat_natCast]
              refine hM _ _ ?_
              clear hM M
              refine pops_to rfl fun M hM => ?_
              simp only [pop, St.eval, constSlot, upd_at, Nat.reduceEqDiff, if_true, if_false, eq_self, true_and, and_true, str_list, str_size, str_app, str_cut, str_get, e0_9, e0_10, e0_11, e0_4, hget, Int.toNat_natCast]
              refine hM _ _ ?_
              clear hM M
              refine pops_done (hR30 _ ?_)
              clear hR30 R30
              try simp only [thenK, scopeK]
              exact ⟨_, by omega, _, .refl _ _, i + 1, sl2, out.dropLast, rfl, by omega, cleanL_up hx h0 h1 h2 hne hx0_1, by rw [List.length_dropLast]; omega, ⟨hk0, ho2⟩, by simp only [upd_at, Nat.reduceEqDiff, if_true, if_false, e0_9, e0_10, e0_11, e0_4, hget, Int.toNat_natCast], by simp only [upd_at, Nat.reduceEqDiff, if_true, if_false, e0_9, e0_10, e0_11, e0_4, hget, Int.toNat_natCast], by simp only [upd_at, Nat.reduceEqDiff, if_true, if_false, e0_11]; rw [wrap_succ (by omega)], by simp only [upd_at, Nat.reduceEqDiff, if_true, if_false, e0_9, e0_10, e0_11, e0_4, hget, Int.toNat_natCast]⟩
          · skip
            have h2 : ¬ x = [46, 46] := by simpa using c23
            refine pwp_reg fun R31 hR31 => ?_
            refine pops_to rfl fun M hM => ?_
            simp only [pop, St.eval, constSlot, upd_at, Nat.reduceEqDiff, if_true, if_false, eq_self, true_and, and_true, str_list, str_size, str_app, str_cut, str_get, e0_9, e0_10, e0_11, e0_4, hget, Int.toNat_natCast]
            refine hM _ _ ?_
            clear hM M
            refine pops_to rfl fun M hM => ?_
            simp only [pop, St.eval, constSlot, upd_at, Nat.reduceEqDiff, if_true, if_false, eq_self, true_and, and_true, str_list, str_size, str_app, str_cut, str_get, e0_9, e0_10, e0_11, e0_4, hget, Int.toNat_natCast]
            refine hM _ _ ?_
            clear hM M
            refine pops_to rfl fun M hM => ?_
            simp only [pop, St.eval, constSlot, upd_at, Nat.reduceEqDiff, if_true, if_false, popBuildSlice, slotCells, List.toList_toArray, List.map_cons, List.map_nil, List.mapM_cons, List.mapM_nil, Option.bind_eq_bind, Option.bind_some, Option.pure_def, Tryd.underlying49, sz9, ze9, by9, eq_self, true_and, and_true, str_list, str_size, str_app, str_cut, str_get, e0_9, e0_10, e0_11, e0_4, hget, Int.toNat_natCast]
            refine ⟨by decide, by decide, rfl, rfl, by simp, by decide, rfl, hM _ _ ?_⟩
            clear hM M
            refine pops_to rfl fun M hM => ?_
            simp only [pop, St.eval, constSlot, upd_at, Nat.reduceEqDiff, if_true, if_false, popCall, List.toList_toArray, List.map_cons, List.map_nil, popBuiltin, eq_self, true_and, and_true, str_list, str_size, str_app, str_cut, str_get, e0_9, e0_10, e0_11, e0_4, hget, Int.toNat_natCast]
            refine out_app hb Tryd.underlying49 sz9 by9 ze9 rfl ho hk0 ⟨by omega, by omega⟩ fun sl2 hp2 ho2 hk2 => hM _ _ ?_
            clear hM M
            refine pops_to rfl fun M hM => ?_
            simp only [pop, St.eval, constSlot, upd_at, Nat.reduceEqDiff, if_true, if_false, eq_self, true_and, and_true, str_list, str_size, str_app, str_cut, str_get, e0_9, e0_10, e0_11, e0_4, hget, Int.toNat_natCast]
            refine hM _ _ ?_
            clear hM M
            refine pops_done (hR31 _ ?_)
            clear hR31 R31
            try simp only [blockK, thenK, scopeK]
            try simp only [blockK, thenK, scopeK]
            try simp only [thenK, scopeK]
            refine hN11 _ ?_
            clear hN11 N11
            refine pwp_reg fun R32 hR32 => ?_
            refine pops_to rfl fun M hM => ?_
            simp only [pop, St.eval, constSlot, upd_at, Nat.reduceEqDiff, if_true, if_false, popBin, binK, intK, strK, eqK, eq_self, true_and, and_true, str_list, str_size, str_app, str_cut, str_get, e0_9, e0_10, e0_11, e0_4, hget, Int.toNat_natCast]
            refine hM _ _ ?_
            clear hM M
            refine pops_to rfl fun M hM => ?_
            simp only [pop, St.eval, constSlot, upd_at, Nat.reduceEqDiff, if_true, if_false, eq_self, true_and, and_true, str_list, str_size, str_app, str_cut, str_get, e0_9, e0_10, e0_11, e0_4, hget, Int.toNat_natCast]
            refine hM _ _ ?_
            clear hM M
            refine pops_done (hR32 _ ?_)
            clear hR32 R32
            try simp only [thenK, scopeK]
            exact ⟨_, by omega, _, .refl _ _, i + 1, sl2, out ++ [x], rfl, by omega, cleanL_add hx h0 h1 h2 hx0_1, by simp; omega, ⟨hk2, ho2⟩, by simp only [upd_at, Nat.reduceEqDiff, if_true, if_false, e0_9, e0_10, e0_11, e0_4, hget, Int.toNat_natCast], by simp only [upd_at, Nat.reduceEqDiff, if_true, if_false, e0_9, e0_10, e0_11, e0_4, hget, Int.toNat_natCast], by simp only [upd_at, Nat.reduceEqDiff, if_true, if_false, e0_11]; rw [wrap_succ (by omega)], by simp only [upd_at, Nat.reduceEqDiff, if_true, if_false, e0_9, e0_10, e0_11, e0_4, hget, Int.toNat_natCast]⟩
    · skip
      have hi := of_decide_eq_false c12
      refine pwp_exit ?_
      try simp only [thenK, blockK, scopeK, if_true, Nat.reduceEqDiff, if_false]
      clear hN10 N10
      try simp only [blockK, scopeK, if_true, Nat.reduceEqDiff, if_false, thenK]
      try simp only [thenK, scopeK]
      refine hN5 _ ?_
      clear hN5 N5
      refine pwp_then fun N33 hN33 => ?_
      refine pwp_then fun N34 hN34 => ?_
      have hcl : cleanL [] (spl 47 s) = some out := by
        rw [List.drop_eq_nil_of_le (by omega), cleanL] at hx0_1
        exact hx0_1.symm
      have hbk := cleanL_bulk _ _ _ hcl
      have hjo := join_bulk 47 out
      have hz0 : pvWss (pstrs []) = 0 := rfl
      refine pwp_freeze 4 (by simp only [upd_at, Nat.reduceEqDiff, if_true, if_false, e0_4]) ho hb hk0 fun hp9 hk9 => ?_
      refine pwp_reg fun R35 hR35 => ?_
      refine pops_to rfl fun M hM => ?_
      simp only [pop, St.eval, constSlot, upd_at, Nat.reduceEqDiff, if_true, if_false, eq_self, true_and, and_true, str_list, str_size, str_app, str_cut, str_get, e0_9, e0_10, e0_11, e0_4]
      refine hM _ _ ?_
      clear hM M
      refine pops_to rfl fun M hM => ?_
      simp only [pop, St.eval, constSlot, upd_at, Nat.reduceEqDiff, if_true, if_false, popCall, List.toList_toArray, List.map_cons, List.map_nil, svs, List.mapM_cons, List.mapM_nil, Option.bind_eq_bind, Option.bind_some, Option.pure_def, List.append_nil, List.cons_append, List.nil_append, eq_self, true_and, and_true, str_list, str_size, str_app, str_cut, str_get, e0_9, e0_10, e0_11, e0_4]
      refine PFun.use (containsFunc_fun W0 77 (fun x => !isNameB x) false out (fun x _ => cleanC_fun W0 x) (by omega)) fun h8 s8 => hM _ _ ?_
      replace hk9 := hk9.trans s8.keeps
      clear hM M
      refine pops_done (hR35 _ ?_)
      clear hR35 R35
      try simp only [thenK, scopeK]
      refine hN34 _ ?_
      clear hN34 N34
      refine pwp_cond (by simp only [St.eval, upd_at, Nat.reduceEqDiff, if_true, if_false, e0_9, e0_10, e0_11, e0_4] <;> rfl) (fun c35 => ?_) (fun c35 => ?_)
      · skip
        have ha : out.all isNameB = false := by
          cases h9 : out.all isNameB with
          | false => rfl
          | true => rw [← List.not_all_eq_any_not] at c35; simp [h9] at c35
        refine pwp_then fun N36 hN36 => ?_
        refine pwp_reg fun R37 hR37 => ?_
        refine pops_to rfl fun M hM => ?_
        simp only [pop, St.eval, constSlot, upd_at, Nat.reduceEqDiff, if_true, if_false, eq_self, true_and, and_true, str_list, str_size, str_app, str_cut, str_get, e0_9, e0_10, e0_11, e0_4]
        refine hM _ _ ?_
        clear hM M
        refine pops_to rfl fun M hM => ?_
        simp only [pop, St.eval, constSlot, upd_at, Nat.reduceEqDiff, if_true, if_false, eq_self, true_and, and_true, str_list, str_size, str_app, str_cut, str_get, e0_9, e0_10, e0_11, e0_4]
        refine hM _ _ ?_
        clear hM M
        refine pops_done (hR37 _ ?_)
        clear hR37 R37
        try simp only [thenK, scopeK]
        refine hN36 _ ?_
        clear hN36 N36
        refine pwp_ret ?_
        simp only [thenK, blockK, scopeK, bodyK]
        clear hN33 N33
        exact ⟨_, rfl, by
          have e : cleanR s = joinR out := by rw [cleanR, hcl]
          rw [e, joinR_1 ha]
          exact endKeeps2 hk9 rfl⟩
      · skip
        have ha : out.all isNameB = true := by
          cases h9 : out.all isNameB with
          | true => rfl
          | false => rw [← List.not_all_eq_any_not] at c35; simp [h9] at c35
        refine pwp_skip ?_
        try simp only [thenK, scopeK]
        refine hN33 _ ?_
        clear hN33 N33
        refine pwp_then fun N38 hN38 => ?_
        refine pwp_reg fun R39 hR39 => ?_
        refine pops_to rfl fun M hM => ?_
        simp only [pop, St.eval, constSlot, upd_at, Nat.reduceEqDiff, if_true, if_false, eq_self, true_and, and_true, str_list, str_size, str_app, str_cut, str_get, e0_9, e0_10, e0_11, e0_4]
        refine hM _ _ ?_
        clear hM M
        refine pops_to rfl fun M hM => ?_
        simp only [pop, St.eval, constSlot, upd_at, Nat.reduceEqDiff, if_true, if_false, popCall, List.toList_toArray, List.map_cons, List.map_nil, svs, List.mapM_cons, List.mapM_nil, Option.bind_eq_bind, Option.bind_some, Option.pure_def, List.append_nil, List.cons_append, List.nil_append, eq_self, true_and, and_true, str_list, str_size, str_app, str_cut, str_get, e0_9, e0_10, e0_11, e0_4]
        refine PFun.use (join_fun W0 false out (by omega) (by omega)) fun h8 s8 => hM _ _ ?_
        replace hk9 := hk9.trans s8.keeps
        clear hM M
        refine pops_to rfl fun M hM => ?_
        simp only [pop, St.eval, constSlot, upd_at, Nat.reduceEqDiff, if_true, if_false, eq_self, true_and, and_true, str_list, str_size, str_app, str_cut, str_get, e0_9, e0_10, e0_11, e0_4]
        refine hM _ _ ?_
        clear hM M
        refine pops_done (hR39 _ ?_)
        clear hR39 R39
        try simp only [thenK, scopeK]
        refine hN38 _ ?_
        clear hN38 N38
        refine pwp_then fun N40 hN40 => ?_
        refine pwp_then fun N41 hN41 => ?_
        refine pwp_reg fun R42 hR42 => ?_
        refine pops_to rfl fun M hM => ?_
        simp only [pop, St.eval, constSlot, upd_at, Nat.reduceEqDiff, if_true, if_false, eq_self, true_and, and_true, str_list, str_size, str_app, str_cut, str_get, e0_9, e0_10, e0_11, e0_4]
        refine hM _ _ ?_
        clear hM M
        refine pops_to rfl fun M hM => ?_
        simp only [pop, St.eval, constSlot, upd_at, Nat.reduceEqDiff, if_true, if_false, popCall, List.toList_toArray, List.map_cons, List.map_nil, popBuiltin, popLen, lenOfSlot, List.length_map, Tryd.underlying9, eq_self, true_and, and_true, str_list, str_size, str_app, str_cut, str_get, e0_9, e0_10, e0_11, e0_4]
        refine hM _ _ ?_
        clear hM M
        refine pops_to rfl fun M hM => ?_
        simp only [pop, St.eval, constSlot, upd_at, Nat.reduceEqDiff, if_true, if_false, popBin, binK, intK, strK, eqK, eq_self, true_and, and_true, str_list, str_size, str_app, str_cut, str_get, e0_9, e0_10, e0_11, e0_4]
        refine hM _ _ ?_
        clear hM M
        refine pops_done (hR42 _ ?_)
        clear hR42 R42
        try simp only [thenK, scopeK]
        refine hN41 _ ?_
        clear hN41 N41
        refine pwp_cond (by simp only [St.eval, upd_at, Nat.reduceEqDiff, if_true, if_false, e0_9, e0_10, e0_11, e0_4] <;> rfl) (fun c40 => ?_) (fun c40 => ?_)
        · skip
          have hl2 : 1024 < (Lib.join out [47]).length := by have := of_decide_eq_true c40; omega
          refine pwp_then fun N43 hN43 => ?_
          refine pwp_reg fun R44 hR44 => ?_
          refine pops_to rfl fun M hM => ?_
          simp only [pop, St.eval, constSlot, upd_at, Nat.reduceEqDiff, if_true, if_false, eq_self, true_and, and_true, str_list, str_size, str_app, str_cut, str_get, e0_9, e0_10, e0_11, e0_4]
          refine hM _ _ ?_
          clear hM M
          refine pops_to rfl fun M hM => ?_
          simp only [pop, St.eval, constSlot, upd_at, Nat.reduceEqDiff, if_true, if_false, eq_self, true_and, and_true, str_list, str_size, str_app, str_cut, str_get, e0_9, e0_10, e0_11, e0_4]
          refine hM _ _ ?_
          clear hM M
          refine pops_done (hR44 _ ?_)
          clear hR44 R44
          try simp only [thenK, scopeK]
          refine hN43 _ ?_
          clear hN43 N43
          refine pwp_ret ?_
          simp only [thenK, blockK, scopeK, bodyK]
          clear hN40 N40
          exact ⟨_, rfl, by
            have e : cleanR s = joinR out := by rw [cleanR, hcl]
            rw [e, joinR_2 ha hl2]
            exact endKeeps2 hk9 rfl⟩
        · skip
          have hl2 : ¬ 1024 < (Lib.join out [47]).length := by have := of_decide_eq_false c40; omega
          refine pwp_skip ?_
          try simp only [thenK, scopeK]
          refine hN40 _ ?_
          clear hN40 N40
          refine pwp_then fun N45 hN45 => ?_
          refine pwp_reg fun R46 hR46 => ?_
          refine pops_to rfl fun M hM => ?_
          simp only [pop, St.eval, constSlot, upd_at, Nat.reduceEqDiff, if_true, if_false, eq_self, true_and, and_true, str_list, str_size, str_app, str_cut, str_get, e0_9, e0_10, e0_11, e0_4]
          refine hM _ _ ?_
          clear hM M
          refine pops_to rfl fun M hM => ?_
          simp only [pop, St.eval, constSlot, upd_at, Nat.reduceEqDiff, if_true, if_false, eq_self, true_and, and_true, str_list, str_size, str_app, str_cut, str_get, e0_9, e0_10, e0_11, e0_4]
          refine hM _ _ ?_
          clear hM M
          refine pops_to rfl fun M hM => ?_
          simp only [pop, St.eval, constSlot, upd_at, Nat.reduceEqDiff, if_true, if_false, eq_self, true_and, and_true, str_list, str_size, str_app, str_cut, str_get, e0_9, e0_10, e0_11, e0_4]
          refine hM _ _ ?_
          clear hM M
          refine pops_done (hR46 _ ?_)
          clear hR46 R46
          try simp only [thenK, scopeK]
          refine hN45 _ ?_
          clear hN45 N45
          refine pwp_ret ?_
          simp only [thenK, blockK, scopeK, bodyK]
          exact ⟨_, rfl, by
            have e : cleanR s = joinR out := by rw [cleanR, hcl]
            rw [e, joinR_3 ha hl2]
            exact endKeeps2 hk9 rfl⟩

theorem nm9 : (Tryd.f9.name == "runtime.NumGoroutine") = false := by kernel_rfl
theorem clean_law (W0 : World) (hm : HasMax W0) (s : List UInt8) (hs : s.length ≤ 1048576) :
    PFun Tryd.prog W0 9 [.one (pstr s)] (.sv (.one (pbool true))) := by
  intro h
  obtain ⟨hc1, hc2, hc3⟩ := cleanR_twice s
  refine pcalls1 (n := 45) Tryd.func9 rfl nm9 rfl fun hb => ?_
  refine pwp_then fun N1 hN1 => ?_
  refine pwp_reg fun R2 hR2 => ?_
  refine pops_to rfl fun M hM => ?_
  simp only [pop, St.eval, constSlot, upd_at, Nat.reduceEqDiff, if_true, if_false, eq_self, true_and, and_true, str_list, str_size, str_app, str_cut, str_get]
  refine hM _ _ ?_
  clear hM M
  refine pops_done (hR2 _ ?_)
  clear hR2 R2
  try simp only [thenK, scopeK]
  refine hN1 _ ?_
  clear hN1 N1
  refine pwp_then fun N3 hN3 => ?_
  refine pwp_then fun N4 hN4 => ?_
  refine pwp_reg fun R5 hR5 => ?_
  refine pops_to rfl fun M hM => ?_
  simp only [pop, St.eval, constSlot, upd_at, Nat.reduceEqDiff, if_true, if_false, popCall, List.toList_toArray, List.map_cons, List.map_nil, svs, List.mapM_cons, List.mapM_nil, Option.bind_eq_bind, Option.bind_some, Option.pure_def, List.append_nil, List.cons_append, List.nil_append, eq_self, true_and, and_true, str_list, str_size, str_app, str_cut, str_get]
  refine PFun.use (landed_fun W0 hm) fun h1 s1 => hM _ _ ?_
  replace s1 := Same.trans (Same.refl _) s1
  clear hM M
  refine pops_to rfl fun M hM => ?_
  simp only [pop, St.eval, constSlot, upd_at, Nat.reduceEqDiff, if_true, if_false, unK, eq_self, true_and, and_true, str_list, str_size, str_app, str_cut, str_get]
  refine hM _ _ ?_
  clear hM M
  refine pops_done (hR5 _ ?_)
  clear hR5 R5
  try simp only [thenK, scopeK]
  refine hN4 _ ?_
  clear hN4 N4
  refine pwp_cond (by simp only [St.eval, upd_at, Nat.reduceEqDiff, if_true, if_false] <;> rfl) (fun c10 => ?_) (fun c10 => ?_)
  · skip
    simp at c10
  · skip
    refine pwp_skip ?_
    try simp only [thenK, scopeK]
    refine hN3 _ ?_
    clear hN3 N3
    refine pwp_then fun N6 hN6 => ?_
    refine pwp_reg fun R7 hR7 => ?_
    refine pops_to rfl fun M hM => ?_
    simp only [pop, St.eval, constSlot, upd_at, Nat.reduceEqDiff, if_true, if_false, eq_self, true_and, and_true, str_list, str_size, str_app, str_cut, str_get]
    refine hM _ _ ?_
    clear hM M
    refine pops_to rfl fun M hM => ?_
    simp only [pop, St.eval, constSlot, upd_at, Nat.reduceEqDiff, if_true, if_false, popCall, List.toList_toArray, List.map_cons, List.map_nil, svs, List.mapM_cons, List.mapM_nil, Option.bind_eq_bind, Option.bind_some, Option.pure_def, List.append_nil, List.cons_append, List.nil_append, eq_self, true_and, and_true, str_list, str_size, str_app, str_cut, str_get]
    refine PFun.use (clean_fun W0 hm _ (by omega)) fun h2 s2 => hM _ _ ?_
    replace s2 := Same.trans s1 s2
    clear hM M
    refine pops_to rfl fun M hM => ?_
    simp only [pop, St.eval, constSlot, upd_at, Nat.reduceEqDiff, if_true, if_false, eq_self, true_and, and_true, str_list, str_size, str_app, str_cut, str_get]
    refine hM _ _ ?_
    clear hM M
    refine pops_to rfl fun M hM => ?_
    simp only [pop, St.eval, constSlot, upd_at, Nat.reduceEqDiff, if_true, if_false, List.getElem?_toArray, List.getElem?_cons_zero, List.getElem?_cons_succ, eq_self, true_and, and_true, str_list, str_size, str_app, str_cut, str_get]
    refine hM _ _ ?_
    clear hM M
    refine pops_to rfl fun M hM => ?_
    simp only [pop, St.eval, constSlot, upd_at, Nat.reduceEqDiff, if_true, if_false, List.getElem?_toArray, List.getElem?_cons_zero, List.getElem?_cons_succ, eq_self, true_and, and_true, str_list, str_size, str_app, str_cut, str_get]
    refine hM _ _ ?_
    clear hM M
    refine pops_to rfl fun M hM => ?_
    simp only [pop, St.eval, constSlot, upd_at, Nat.reduceEqDiff, if_true, if_false, eq_self, true_and, and_true, str_list, str_size, str_app, str_cut, str_get]
    refine hM _ _ ?_
    clear hM M
    refine pops_to rfl fun M hM => ?_
    simp only [pop, St.eval, constSlot, upd_at, Nat.reduceEqDiff, if_true, if_false, eq_self, true_and, and_true, str_list, str_size, str_app, str_cut, str_get]
    refine hM _ _ ?_
    clear hM M
    refine pops_done (hR7 _ ?_)
    clear hR7 R7
    try simp only [thenK, scopeK]
    refine hN6 _ ?_
    clear hN6 N6
    refine pwp_then fun N8 hN8 => ?_
    refine pwp_reg fun R9 hR9 => ?_
    refine pops_to rfl fun M hM => ?_
    simp only [pop, St.eval, constSlot, upd_at, Nat.reduceEqDiff, if_true, if_false, eq_self, true_and, and_true, str_list, str_size, str_app, str_cut, str_get]
    refine hM _ _ ?_
    clear hM M
    refine pops_to rfl fun M hM => ?_
    simp only [pop, St.eval, constSlot, upd_at, Nat.reduceEqDiff, if_true, if_false, popCall, List.toList_toArray, List.map_cons, List.map_nil, svs, List.mapM_cons, List.mapM_nil, Option.bind_eq_bind, Option.bind_some, Option.pure_def, List.append_nil, List.cons_append, List.nil_append, eq_self, true_and, and_true, str_list, str_size, str_app, str_cut, str_get]
    refine PFun.use (cleanRef_fun W0 hm s hs) fun h3 s3 => hM _ _ ?_
    replace s3 := Same.trans s2 s3
    clear hM M
    refine pops_to rfl fun M hM => ?_
    simp only [pop, St.eval, constSlot, upd_at, Nat.reduceEqDiff, if_true, if_false, eq_self, true_and, and_true, str_list, str_size, str_app, str_cut, str_get]
    refine hM _ _ ?_
    clear hM M
    refine pops_to rfl fun M hM => ?_
    simp only [pop, St.eval, constSlot, upd_at, Nat.reduceEqDiff, if_true, if_false, List.getElem?_toArray, List.getElem?_cons_zero, List.getElem?_cons_succ, eq_self, true_and, and_true, str_list, str_size, str_app, str_cut, str_get]
    refine hM _ _ ?_
    clear hM M
    refine pops_to rfl fun M hM => ?_
    simp only [pop, St.eval, constSlot, upd_at, Nat.reduceEqDiff, if_true, if_false, List.getElem?_toArray, List.getElem?_cons_zero, List.getElem?_cons_succ, eq_self, true_and, and_true, str_list, str_size, str_app, str_cut, str_get]
    refine hM _ _ ?_
    clear hM M
    refine pops_to rfl fun M hM => ?_
    simp only [pop, St.eval, constSlot, upd_at, Nat.reduceEqDiff, if_true, if_false, eq_self, true_and, and_true, str_list, str_size, str_app, str_cut, str_get]
    refine hM _ _ ?_
    clear hM M
    refine pops_to rfl fun M hM => ?_
    simp only [pop, St.eval, constSlot, upd_at, Nat.reduceEqDiff, if_true, if_false, eq_self, true_and, and_true, str_list, str_size, str_app, str_cut, str_get]
    refine hM _ _ ?_
    clear hM M
    refine pops_done (hR9 _ ?_)
    clear hR9 R9
    try simp only [thenK, scopeK]
    refine hN8 _ ?_
    clear hN8 N8
    refine pwp_then fun N10 hN10 => ?_
    refine pwp_then fun N11 hN11 => ?_
    refine pwp_reg fun R12 hR12 => ?_
    refine pops_to rfl fun M hM => ?_
    simp only [pop, St.eval, constSlot, upd_at, Nat.reduceEqDiff, if_true, if_false, eq_self, true_and, and_true, str_list, str_size, str_app, str_cut, str_get]
    refine hM _ _ ?_
    clear hM M
    refine pops_to rfl fun M hM => ?_
    simp only [pop, St.eval, constSlot, upd_at, Nat.reduceEqDiff, if_true, if_false, eq_self, true_and, and_true, str_list, str_size, str_app, str_cut, str_get]
    refine hM _ _ ?_
    clear hM M
    refine pops_to rfl fun M hM => ?_
    simp only [pop, St.eval, constSlot, upd_at, Nat.reduceEqDiff, if_true, if_false, popBin, binK, intK, strK, eqK, Tryd.underlying9, isPtr, eq_self, true_and, and_true, str_list, str_size, str_app, str_cut, str_get]
    refine hM _ _ ?_
    clear hM M
    refine pops_to rfl fun M hM => ?_
    simp only [pop, St.eval, constSlot, upd_at, Nat.reduceEqDiff, if_true, if_false, eq_self, true_and, and_true, str_list, str_size, str_app, str_cut, str_get]
    refine hM _ _ ?_
    clear hM M
    apply pops_or0 4 24 28 [25, 26, 27] (by simp only [upd_at, Nat.reduceEqDiff, if_true, if_false] <;> rfl)
    · skip
      intro g24_0 J13 hJ13
      simp only [List.take_succ_cons, List.take_zero]
      simp only [anyAt_cons, anyAt_nil] at hJ13
      refine pops_do rfl rfl (by simp only [upd_at, Nat.reduceEqDiff, if_true, if_false, g24_0]) fun M hM => ?_
      simp only [pop, St.eval, constSlot, upd_at, Nat.reduceEqDiff, if_true, if_false, eq_self, true_and, and_true, str_list, str_size, str_app, str_cut, str_get, g24_0]
      refine hM _ _ ?_
      clear hM M
      refine pops_do rfl rfl (by simp only [upd_at, Nat.reduceEqDiff, if_true, if_false, g24_0]) fun M hM => ?_
      simp only [pop, St.eval, constSlot, upd_at, Nat.reduceEqDiff, if_true, if_false, eq_self, true_and, and_true, str_list, str_size, str_app, str_cut, str_get, g24_0]
      refine hM _ _ ?_
      clear hM M
      refine pops_do rfl rfl (by simp only [upd_at, Nat.reduceEqDiff, if_true, if_false, g24_0]) fun M hM => ?_
      simp only [pop, St.eval, constSlot, upd_at, Nat.reduceEqDiff, if_true, if_false, popBin, binK, intK, strK, eqK, Tryd.underlying31, isPtr, eq_self, true_and, and_true, str_list, str_size, str_app, str_cut, str_get, g24_0]
      refine hM _ _ ?_
      clear hM M
      refine pops_to rfl fun M hM => ?_
      simp only [pop, St.eval, constSlot, upd_at, Nat.reduceEqDiff, if_true, if_false, popIf, true_implies, false_implies, Bool.true_eq_false, Bool.false_eq_true, reduceCtorEq, eq_self, true_and, and_true, str_list, str_size, str_app, str_cut, str_get, g24_0]
      refine hM _ _ ?_
      clear hM M
      exact pops_done (hJ13 _ (wk_same (wk_any ((wk_any ((wk_any (Wk.refl _ _))))))))
    · skip
      intro g24_0 J13 hJ13
      simp only [List.take_succ_cons, List.take_zero]
      simp only [anyAt_cons, anyAt_nil] at hJ13
      refine pops_off (b := true) rfl rfl (by simp only [upd_at, Nat.reduceEqDiff, if_true, if_false, g24_0]) (by decide) ?_
      refine pops_off (b := true) rfl rfl (by simp only [upd_at, Nat.reduceEqDiff, if_true, if_false, g24_0]) (by decide) ?_
      refine pops_off (b := true) rfl rfl (by simp only [upd_at, Nat.reduceEqDiff, if_true, if_false, g24_0]) (by decide) ?_
      refine pops_to rfl fun M hM => ?_
      simp only [pop, St.eval, constSlot, upd_at, Nat.reduceEqDiff, if_true, if_false, popIf, true_implies, false_implies, Bool.true_eq_false, Bool.false_eq_true, reduceCtorEq, eq_self, true_and, and_true, str_list, str_size, str_app, str_cut, str_get, g24_0]
      refine hM _ _ ?_
      clear hM M
      exact pops_done (hJ13 _ (wk_same (wk_any ((wk_any ((wk_any (Wk.refl _ _))))))))
    simp only [List.drop_succ_cons, List.drop_zero, anyAt_cons, anyAt_nil]
    refine pops_done (hR12 _ ?_)
    clear hR12 R12
    try simp only [thenK, scopeK]
    refine hN11 _ ?_
    clear hN11 N11
    refine pwp_cond (by simp only [St.eval, upd_at, Nat.reduceEqDiff, if_true, if_false] <;> rfl) (fun c28 => ?_) (fun c28 => ?_)
    · skip
      simp at c28
    · skip
      refine pwp_skip ?_
      try simp only [thenK, scopeK]
      refine hN10 _ ?_
      clear hN10 N10
      refine pwp_then fun N14 hN14 => ?_
      refine pwp_reg fun R15 hR15 => ?_
      refine pops_to rfl fun M hM => ?_
      simp only [pop, St.eval, constSlot, upd_at, Nat.reduceEqDiff, if_true, if_false, eq_self, true_and, and_true, str_list, str_size, str_app, str_cut, str_get]
      refine hM _ _ ?_
      clear hM M
      refine pops_to rfl fun M hM => ?_
      simp only [pop, St.eval, constSlot, upd_at, Nat.reduceEqDiff, if_true, if_false, popCall, List.toList_toArray, List.map_cons, List.map_nil, svs, List.mapM_cons, List.mapM_nil, Option.bind_eq_bind, Option.bind_some, Option.pure_def, List.append_nil, List.cons_append, List.nil_append, eq_self, true_and, and_true, str_list, str_size, str_app, str_cut, str_get]
      refine PFun.use (clean_fun W0 hm _ (by omega)) fun h4 s4 => hM _ _ ?_
      replace s4 := Same.trans s3 s4
      clear hM M
      refine pops_to rfl fun M hM => ?_
      simp only [pop, St.eval, constSlot, upd_at, Nat.reduceEqDiff, if_true, if_false, eq_self, true_and, and_true, str_list, str_size, str_app, str_cut, str_get]
      refine hM _ _ ?_
      clear hM M
      refine pops_to rfl fun M hM => ?_
      simp only [pop, St.eval, constSlot, upd_at, Nat.reduceEqDiff, if_true, if_false, List.getElem?_toArray, List.getElem?_cons_zero, List.getElem?_cons_succ, eq_self, true_and, and_true, str_list, str_size, str_app, str_cut, str_get]
      refine hM _ _ ?_
      clear hM M
      refine pops_to rfl fun M hM => ?_
      simp only [pop, St.eval, constSlot, upd_at, Nat.reduceEqDiff, if_true, if_false, List.getElem?_toArray, List.getElem?_cons_zero, List.getElem?_cons_succ, eq_self, true_and, and_true, str_list, str_size, str_app, str_cut, str_get]
      refine hM _ _ ?_
      clear hM M
      refine pops_to rfl fun M hM => ?_
      simp only [pop, St.eval, constSlot, upd_at, Nat.reduceEqDiff, if_true, if_false, eq_self, true_and, and_true, str_list, str_size, str_app, str_cut, str_get]
      refine hM _ _ ?_
      clear hM M
      refine pops_to rfl fun M hM => ?_
      simp only [pop, St.eval, constSlot, upd_at, Nat.reduceEqDiff, if_true, if_false, eq_self, true_and, and_true, str_list, str_size, str_app, str_cut, str_get]
      refine hM _ _ ?_
      clear hM M
      refine pops_done (hR15 _ ?_)
      clear hR15 R15
      try simp only [thenK, scopeK]
      refine hN14 _ ?_
      clear hN14 N14
      refine pwp_then fun N16 hN16 => ?_
      refine pwp_reg fun R17 hR17 => ?_
      refine pops_to rfl fun M hM => ?_
      simp only [pop, St.eval, constSlot, upd_at, Nat.reduceEqDiff, if_true, if_false, eq_self, true_and, and_true, str_list, str_size, str_app, str_cut, str_get]
      refine hM _ _ ?_
      clear hM M
      refine pops_to rfl fun M hM => ?_
      simp only [pop, St.eval, constSlot, upd_at, Nat.reduceEqDiff, if_true, if_false, eq_self, true_and, and_true, str_list, str_size, str_app, str_cut, str_get]
      refine hM _ _ ?_
      clear hM M
      refine pops_to rfl fun M hM => ?_
      simp only [pop, St.eval, constSlot, upd_at, Nat.reduceEqDiff, if_true, if_false, popBin, binK, intK, strK, eqK, Tryd.underlying9, isPtr, eq_self, true_and, and_true, str_list, str_size, str_app, str_cut, str_get]
      refine hM _ _ ?_
      clear hM M
      refine pops_to rfl fun M hM => ?_
      simp only [pop, St.eval, constSlot, upd_at, Nat.reduceEqDiff, if_true, if_false, eq_self, true_and, and_true, str_list, str_size, str_app, str_cut, str_get]
      refine hM _ _ ?_
      clear hM M
      apply pops_and0 3 37 40 [38, 39] (by simp only [upd_at, Nat.reduceEqDiff, if_true, if_false] <;> rfl)
      · skip
        intro g37_0 J18 hJ18
        simp only [List.take_succ_cons, List.take_zero]
        simp only [anyAt_cons, anyAt_nil] at hJ18
        refine pops_do rfl rfl (by simp only [upd_at, Nat.reduceEqDiff, if_true, if_false, g37_0]) fun M hM => ?_
        simp only [pop, St.eval, constSlot, upd_at, Nat.reduceEqDiff, if_true, if_false, eq_self, true_and, and_true, str_list, str_size, str_app, str_cut, str_get, g37_0]
        refine hM _ _ ?_
        clear hM M
        refine pops_do rfl rfl (by simp only [upd_at, Nat.reduceEqDiff, if_true, if_false, g37_0]) fun M hM => ?_
        simp only [pop, St.eval, constSlot, upd_at, Nat.reduceEqDiff, if_true, if_false, popBin, binK, intK, strK, eqK, Tryd.underlying31, isPtr, eq_self, true_and, and_true, str_list, str_size, str_app, str_cut, str_get, g37_0]
        refine hM _ _ ?_
        clear hM M
        refine pops_to rfl fun M hM => ?_
        simp only [pop, St.eval, constSlot, upd_at, Nat.reduceEqDiff, if_true, if_false, popIf, true_implies, false_implies, Bool.true_eq_false, Bool.false_eq_true, reduceCtorEq, eq_self, true_and, and_true, str_list, str_size, str_app, str_cut, str_get, g37_0]
        refine hM _ _ ?_
        clear hM M
        exact pops_done (hJ18 _ (wk_same (wk_any ((wk_any (Wk.refl _ _))))))
      · skip
        intro g37_0 J18 hJ18
        simp only [List.take_succ_cons, List.take_zero]
        simp only [anyAt_cons, anyAt_nil] at hJ18
        refine pops_off (b := false) rfl rfl (by simp only [upd_at, Nat.reduceEqDiff, if_true, if_false, g37_0]) (by decide) ?_
        refine pops_off (b := false) rfl rfl (by simp only [upd_at, Nat.reduceEqDiff, if_true, if_false, g37_0]) (by decide) ?_
        refine pops_to rfl fun M hM => ?_
        simp only [pop, St.eval, constSlot, upd_at, Nat.reduceEqDiff, if_true, if_false, popIf, true_implies, false_implies, Bool.true_eq_false, Bool.false_eq_true, reduceCtorEq, eq_self, true_and, and_true, str_list, str_size, str_app, str_cut, str_get, g37_0]
        refine hM _ _ ?_
        clear hM M
        exact pops_done (hJ18 _ (wk_same (wk_any ((wk_any (Wk.refl _ _))))))
      simp only [List.drop_succ_cons, List.drop_zero, anyAt_cons, anyAt_nil]
      refine pops_to rfl fun M hM => ?_
      simp only [pop, St.eval, constSlot, upd_at, Nat.reduceEqDiff, if_true, if_false, eq_self, true_and, and_true, str_list, str_size, str_app, str_cut, str_get]
      refine hM _ _ ?_
      clear hM M
      apply pops_and 3 41 44 [42, 43] (by simp only [upd_at, Nat.reduceEqDiff, if_true, if_false] <;> rfl)
      · skip
        intro g41_0 J19 hJ19
        simp only [List.take_succ_cons, List.take_zero]
        simp only [anyAt_cons, anyAt_nil] at hJ19
        refine pops_do rfl rfl (by simp only [upd_at, Nat.reduceEqDiff, if_true, if_false, g41_0]) fun M hM => ?_
        simp only [pop, St.eval, constSlot, upd_at, Nat.reduceEqDiff, if_true, if_false, eq_self, true_and, and_true, str_list, str_size, str_app, str_cut, str_get, g41_0]
        refine hM _ _ ?_
        clear hM M
        refine pops_do rfl rfl (by simp only [upd_at, Nat.reduceEqDiff, if_true, if_false, g41_0]) fun M hM => ?_
        simp only [pop, St.eval, constSlot, upd_at, Nat.reduceEqDiff, if_true, if_false, popCall, List.toList_toArray, List.map_cons, List.map_nil, svs, List.mapM_cons, List.mapM_nil, Option.bind_eq_bind, Option.bind_some, Option.pure_def, List.append_nil, List.cons_append, List.nil_append, eq_self, true_and, and_true, str_list, str_size, str_app, str_cut, str_get, g41_0]
        refine PFun.use (isPath_fun W0 hm (cleanR s).1) fun h5 s5 => hM _ _ ?_
        replace s5 := Same.trans (Same.refl _) s5
        clear hM M
        refine pops_to rfl fun M hM => ?_
        simp only [pop, St.eval, constSlot, upd_at, Nat.reduceEqDiff, if_true, if_false, popIf, true_implies, false_implies, Bool.true_eq_false, Bool.false_eq_true, reduceCtorEq, eq_self, true_and, and_true, str_list, str_size, str_app, str_cut, str_get, g41_0]
        refine hM _ _ ?_
        clear hM M
        exact pops_done (hJ19 _ _ s5 (wk_same (wk_any ((wk_any (Wk.refl _ _))))))
      · skip
        intro g41_0 J19 hJ19
        simp only [List.take_succ_cons, List.take_zero]
        simp only [anyAt_cons, anyAt_nil] at hJ19
        refine pops_off (b := false) rfl rfl (by simp only [upd_at, Nat.reduceEqDiff, if_true, if_false, g41_0]) (by decide) ?_
        refine pops_off (b := false) rfl rfl (by simp only [upd_at, Nat.reduceEqDiff, if_true, if_false, g41_0]) (by decide) ?_
        refine pops_to rfl fun M hM => ?_
        simp only [pop, St.eval, constSlot, upd_at, Nat.reduceEqDiff, if_true, if_false, popIf, true_implies, false_implies, Bool.true_eq_false, Bool.false_eq_true, reduceCtorEq, eq_self, true_and, and_true, str_list, str_size, str_app, str_cut, str_get, g41_0]
        refine hM _ _ ?_
        clear hM M
        exact pops_done (hJ19 _ _ (Same.refl _) (wk_same (wk_any ((wk_any (Wk.refl _ _))))))
      simp only [List.drop_succ_cons, List.drop_zero, anyAt_cons, anyAt_nil]
      intro hj19 sj19
      replace sj19 := Same.trans s4 sj19
      refine pops_to rfl fun M hM => ?_
      simp only [pop, St.eval, constSlot, upd_at, Nat.reduceEqDiff, if_true, if_false, eq_self, true_and, and_true, str_list, str_size, str_app, str_cut, str_get]
      refine hM _ _ ?_
      clear hM M
      refine pops_done (hR17 _ ?_)
      clear hR17 R17
      try simp only [thenK, scopeK]
      refine hN16 _ ?_
      clear hN16 N16
      refine pwp_ret ?_
      simp only [thenK, blockK, scopeK, bodyK]
      refine ⟨_, rfl, endFun sj19 ?_⟩
      try simp only [upd_at, Nat.reduceEqDiff, if_true, if_false]
      all_goals
        rw [hc1, hc2]
        simp
end Go.Pw
