import Derived.Test.YtjhgmempnhjflaaDoorEncE
namespace Go.Pw
open Go Go.RowKit Go.Proofs
set_option maxRecDepth 100000
set_option linter.unusedSimpArgs false
set_option linter.unusedVariables false
theorem form_not {k : Bool} {s : List UInt8} {b : UInt8} (h : formB k s = true) (hb : badB k b = true) : b ∉ s := fun hm => by
  have := ((formB_iff k s).1 h).2 b hm
  rw [hb] at this; cases this
theorem bad_37 (k : Bool) : badB k 37 = true := by cases k <;> decide
theorem bad_94 {k : Bool} (h : k = true) : badB k 94 = true := by subst h; decide
theorem bad_hex (k : Bool) (n : Fin 16) : badB k (hexC n.val) = true := by revert n; cases k <;> decide
theorem bad_letter (k : Bool) {c : UInt8} (h : letterB c = true) : badB k c = true := by simp [badB, h]
theorem encAt_first {x : Enc} (hf : formB x.kase x.head = true) {tk : Bool} {n : Nat} {c b : UInt8} (hb : (encAt x tk n 0 c)[0]? = some b) : b ∉ x.head := by
  unfold encAt at hb
  split at hb
  · simp at hb; subst hb; exact form_not hf (bad_37 _)
  · rename_i hn
    split at hb
    · rename_i hk
      simp at hb; subst hb; exact form_not hf (bad_94 hk.1)
    · simp at hb; subst hb
      exact fun h => hn (.inr (.inr (.inl ⟨rfl, .inl h⟩)))
theorem encAt_last {x : Enc} (hf : formB x.kase x.tail = true) {tk : Bool} {n i : Nat} (hi : i + 1 = n) {c b : UInt8} (hb : (encAt x tk n i c).getLast? = some b) : b ∉ x.tail := by
  unfold encAt at hb
  split at hb
  · simp at hb; subst hb; exact form_not hf (bad_hex _ ⟨c.toNat % 16, by omega⟩)
  · rename_i hn
    split at hb
    · rename_i hk
      simp at hb; subst hb
      rcases hk.2 with h2 | h2
      · subst h2; exact form_not hf (bad_94 hk.1)
      · exact form_not hf (bad_letter _ (lowC_up h2).2.2.2.2)
    · simp at hb; subst hb
      exact fun h => hn (.inr (.inr (.inr ⟨hi, h⟩)))
theorem encAt_ne (x : Enc) (tk : Bool) (n i : Nat) (c : UInt8) : encAt x tk n i c ≠ [] := by
  unfold encAt
  split
  · simp
  · split <;> simp
theorem encFrom_last {x : Enc} (hf : formB x.kase x.tail = true) {tk : Bool} {n : Nat} : ∀ (s : List UInt8) (i : Nat), i + s.length = n → ∀ b, (encFrom x tk n i s).getLast? = some b → b ∉ x.tail
  | [], i, _, b, h => by simp [encFrom] at h
  | [c], i, hl, b, h => by
    simp only [encFrom, List.append_nil] at h
    exact encAt_last hf (by simpa using hl) h
  | c :: c2 :: r, i, hl, b, h => by
    refine encFrom_last hf (tk := tk) (n := n) (c2 :: r) (i + 1) (by simp at hl ⊢; omega) b ?_
    rw [encFrom, List.getLast?_append] at h
    cases he : (encFrom x tk n (i + 1) (c2 :: r)).getLast? with
    | none => rw [List.getLast?_eq_none_iff] at he; exact absurd he encFrom_ne
    | some y => rw [he] at h; simpa using h
theorem encFrom_plain {x : Enc} {tk : Bool} {n : Nat} : ∀ (s : List UInt8) (i : Nat), (37 : UInt8) ∉ encFrom x tk n i s → (94 : UInt8) ∉ encFrom x tk n i s → encFrom x tk n i s = s ∧ (s ≠ [] → i = 0 → tk = false)
  | [], i, _, _ => ⟨rfl, fun h => absurd rfl h⟩
  | c :: s, i, h1, h2 => by
    rw [encFrom] at h1 h2 ⊢
    simp only [List.mem_append, not_or] at h1 h2
    obtain ⟨ih, _⟩ := encFrom_plain s (i + 1) h1.2 h2.2
    rw [ih]
    unfold encAt at h1 h2 ⊢
    split
    · rename_i hc; rw [if_pos hc] at h1; simp at h1
    · rename_i hc
      rw [if_neg hc] at h2
      split
      · rename_i hk; rw [if_pos hk] at h2; simp at h2
      · refine ⟨rfl, fun _ hi => ?_⟩
        cases tk with
        | false => rfl
        | true => exact absurd (.inr (.inr (.inl ⟨hi, .inr rfl⟩))) hc
structure GoodEnc (x : Enc) (n : List UInt8) : Prop where
  len : ((n.length : Nat) : Int) ≤ x.maxName
  ne : n ≠ []
  first : ∀ c, n[0]? = some c → x.head.contains c = false
  last : ∀ c, n[n.length - 1]? = some c → x.tail.contains c = false
  name : x.names.contains (lowL n) = false
  forbid : ∀ c ∈ n, x.forbid.contains c = false
theorem good_name {x : Enc} (hec : encCheckR x = 0) {m : List UInt8} (hm : m ≠ []) (hl : ((encName x m).length : Int) ≤ x.maxName) : GoodEnc x (encName x m) := by
  obtain ⟨hf, hne, h3, h255⟩ := encCheck_parts hec
  refine ⟨hl, encName_ne hm, fun c hc => ?_, fun c hc => ?_, ?_, fun c hc => ?_⟩
  · obtain ⟨a, r, rfl⟩ := List.exists_cons_of_ne_nil hm
    rw [encName, encFrom, List.getElem?_append_left (by have := encAt_ne x (x.names.contains (lowL (a :: r))) (a :: r).length 0 a; exact List.length_pos_iff.2 this)] at hc
    have := encAt_first (hf x.head (by simp)) hc
    simpa using this
  · rw [← List.getLast?_eq_getElem?] at hc
    have := encFrom_last (hf x.tail (by simp)) m 0 (by simp) c hc
    simpa using this
  · rw [Bool.eq_false_iff]
    intro hmem
    rw [List.contains_iff_mem] at hmem
    have hb := (namesE_sorted _ _ hne).2.2 _ hmem
    simp only [nameBad, Bool.or_eq_false_iff, List.any_eq_false, List.contains_iff_mem] at hb
    have h37 : (37 : UInt8) ∉ encName x m := fun h => hb.2 37 (List.mem_map.2 ⟨37, h, by decide⟩) (by simp)
    have h94 : (94 : UInt8) ∉ encName x m := fun h => hb.2 94 (List.mem_map.2 ⟨94, h, by decide⟩) (by simp)
    obtain ⟨e1, e2⟩ := encFrom_plain m 0 h37 h94
    have e3 : encName x m = m := e1
    rw [e3] at hmem
    have := e2 hm rfl
    rw [← List.contains_iff_mem] at hmem
    rw [hmem] at this; cases this
  · obtain ⟨j, d, h1, h2⟩ := encFrom_mem hc
    have hfb := hf x.forbid (by simp)
    have : c ∉ x.forbid := by
      rcases encAt_mem h2 with h | ⟨q, h⟩ | ⟨hk, h⟩ | ⟨hk, h, h3⟩ | ⟨h, h3⟩
      · subst h; exact form_not hfb (bad_37 _)
      · subst h; exact form_not hfb (bad_hex _ q)
      · subst h; exact form_not hfb (bad_94 hk)
      · subst h; exact form_not hfb (bad_letter _ (lowC_up h3).2.2.2.2)
      · subst h; exact h3
    simpa using this
theorem good_path {x : Enc} (hec : encCheckR x = 0) {s t n : List UInt8} (hs : isPathB s = true) (he : encPath x s = (t, 0)) (ht : t ≠ []) (hn : n ∈ spl 47 t) : GoodEnc x n := by
  have hm := (encCheck_parts hec).2.2.2
  obtain ⟨h1, h2⟩ := encPath_path hm hs he
  obtain ⟨h3, h4, h5⟩ := encPath_ok he
  rw [namesR_ne ht] at h2
  rw [h2] at hn
  obtain ⟨m, hmm, rfl⟩ := List.mem_map.1 hn
  exact good_name hec (isNameB_iff.1 (List.all_eq_true.1 (namesR_all hs) m hmm)).1 (h5 m hmm)
theorem encR_cases (x : Enc) (s : List UInt8) : (encR x s).2 ≠ 0 ∨ (isPathB s = true ∧ encPath x s = ((encR x s).1, 0) ∧ (encR x s).1.length ≤ 1024) := by
  unfold encR
  split
  · rename_i hs
    by_cases h : (encPath x s).2 = 0
    · have e : encPath x s = ((encPath x s).1, 0) := Prod.ext rfl h
      exact .inr ⟨hs, e, (encPath_ok e).2.1⟩
    · exact .inl h
  · exact .inl (by decide)
theorem encR_len (x : Enc) (s : List UInt8) : (encR x s).1.length ≤ 1024 := by
  unfold encR
  split
  · unfold encPath
    split
    · simp
    · split
      · simp
      · simp only; omega
  · simp
theorem encodeR_len (x : Enc) (s : List UInt8) : (encodeR x s).1.length ≤ 1024 := by
  unfold encodeR
  split
  · exact encR_len x s
  · simp
def hexV2 (c : UInt8) : Option Nat := if 97 ≤ c.toNat ∧ c.toNat ≤ 102 then some (c.toNat - 87) else hexV c
def decLow : List UInt8 → Option (List UInt8)
  | [] => some []
  | [c] => if c = 37 ∨ c = 94 then none else some [c]
  | [c, d] => if c = 37 then none else if c = 94 then some [upC d] else (decLow [d]).map (c :: ·)
  | c :: d :: e :: r => if c = 37 then (match hexV2 d, hexV2 e with | some a, some b => (decLow r).map (UInt8.ofNat (a * 16 + b) :: ·) | _, _ => none)
      else if c = 94 then (decLow (e :: r)).map (upC d :: ·) else (decLow (d :: e :: r)).map (c :: ·)
theorem hexV2_low : ∀ n : Fin 16, hexV2 (lowC (hexC n.val)) = some n.val := by decide
theorem decLow_plain {c : UInt8} (h1 : c ≠ 37) (h2 : c ≠ 94) (r : List UInt8) : decLow (c :: r) = (decLow r).map (c :: ·) := by
  match r with
  | [] => simp only [decLow]; rw [if_neg (by rintro (h | h); exact h1 h; exact h2 h)]; rfl
  | [d] => conv => lhs; rw [decLow, if_neg h1, if_neg h2]
  | d :: e :: r => rw [decLow, if_neg h1, if_neg h2]
theorem decLow_case (d : UInt8) (r : List UInt8) : decLow (94 :: d :: r) = (decLow r).map (upC d :: ·) := by
  match r with
  | [] => simp only [decLow]; rw [if_neg (by decide), if_pos trivial]; rfl
  | e :: r => rw [decLow, if_neg (by decide), if_pos rfl]
theorem decLow_hex {d e : UInt8} {a b : Nat} (h1 : hexV2 d = some a) (h2 : hexV2 e = some b) (r : List UInt8) : decLow (37 :: d :: e :: r) = (decLow r).map (UInt8.ofNat (a * 16 + b) :: ·) := by
  rw [decLow, if_pos rfl, h1, h2]
theorem low_low (c : UInt8) : lowC (lowC c) = lowC c := all_u8 (Q := fun c => lowC (lowC c) = lowC c) (by decide) c
theorem decLow_enc {x : Enc} (hk : x.kase = true) (tk : Bool) (n : Nat) : ∀ (s : List UInt8) (i : Nat) (r : List UInt8), decLow (lowL (encFrom x tk n i s) ++ r) = (decLow r).map (s ++ ·)
  | [], i, r => by simp [encFrom, lowL]
  | c :: s, i, r => by
    have ih := decLow_enc hk tk n s (i + 1) r
    rw [encFrom]
    simp only [lowL, List.map_append, List.append_assoc] at ih ⊢
    unfold encAt
    split
    · simp only [List.map_cons, List.map_nil, List.cons_append, List.nil_append]
      rw [show lowC 37 = 37 by decide, decLow_hex (hexV2_low ⟨c.toNat / 16, by have := c.toNat_lt; omega⟩) (hexV2_low ⟨c.toNat % 16, by omega⟩), ih, hex_back, Option.map_map]; rfl
    · rename_i hn
      split
      · rename_i hc
        simp only [List.map_cons, List.map_nil, List.cons_append, List.nil_append]
        rw [show lowC 94 = 94 by decide, low_low, decLow_case, ih, upC_lowC hc.2, Option.map_map]; rfl
      · rename_i hc
        simp only [List.map_cons, List.map_nil, List.cons_append, List.nil_append]
        have hup : ¬ (65 ≤ c.toNat ∧ c.toNat ≤ 90) := fun h => hc ⟨hk, .inr h⟩
        rw [show lowC c = c by rw [lowC, if_neg hup], decLow_plain (fun h => hn (.inl h)) (fun h => hc ⟨hk, .inl h⟩), ih, Option.map_map]; rfl
theorem decLow_join {x : Enc} (hk : x.kase = true) : ∀ l : List (List UInt8), decLow (lowL (Lib.join (l.map (encName x)) [47])) = some (Lib.join l [47])
  | [] => by simp [Lib.join, decLow, lowL]
  | [a] => by
    simp only [List.map_cons, List.map_nil, Lib.join_one]
    have := decLow_enc hk (x.names.contains (lowL a)) a.length a 0 []
    rw [List.append_nil] at this
    rw [encName, this]; simp [decLow]
  | a :: b :: r => by
    have ih := decLow_join hk (b :: r)
    simp only [List.map_cons] at ih ⊢
    rw [join_cons2, join_cons2]
    have e : lowL (encName x a ++ 47 :: Lib.join (encName x b :: r.map (encName x)) [47]) = lowL (encName x a) ++ (47 :: lowL (Lib.join (encName x b :: r.map (encName x)) [47])) := by
      simp only [lowL, List.map_append, List.map_cons]; rfl
    rw [e, encName, decLow_enc hk, decLow_plain (by decide) (by decide), ih]; rfl
theorem one2one {x : Enc} {a b : List UInt8} (ha : (encodeR x a).2 = 0) (hb : (encodeR x b).2 = 0) (hab : a ≠ b) : (encodeR x a).1 ≠ (encodeR x b).1 ∧ (x.kase = true → lowL (encodeR x a).1 ≠ lowL (encodeR x b).1) := by
  unfold encodeR at *
  split at ha
  · rename_i hec
    rw [if_pos hec] at hb
    simp only [if_pos hec]
    rcases encR_cases x a with h | ⟨pa, ea, _⟩
    · exact absurd ha h
    · rcases encR_cases x b with h | ⟨pb, eb, _⟩
      · exact absurd hb h
      · have da := (encPath_ok ea).1
        have db := (encPath_ok eb).1
        refine ⟨fun e => hab ?_, fun hk e => hab ?_⟩
        · have h1 := dec_join x (namesR a)
          have h2 := dec_join x (namesR b)
          rw [← da] at h1
          rw [← db] at h2
          rw [e, h2, namesR_join, namesR_join] at h1
          exact (Option.some.inj h1).symm
        · have h1 := decLow_join hk (namesR a)
          have h2 := decLow_join hk (namesR b)
          rw [← da] at h1
          rw [← db] at h2
          rw [e, h2, namesR_join, namesR_join] at h1
          exact (Option.some.inj h1).symm
  · rename_i hec; exact absurd ha hec
/-- A text's bytes, only read from their birth on. -/
theorem pops_toBytes {P : Program} {W0 : World} {n : Nat} {ops : Array Oper} {N : St → Prop} {rest : List Oper} {e0 : Nat → Slot} {h : Hp} {d : Nat} {ts t t8 ty : TypeId} {pos : String} {af : Array Edge} {y : Operand} {l : List UInt8}
    (hok : hpOk h) (hd : decide (d < n) = true) (hs : P.underlying ts = some .string) (ht : P.underlying t = some (.slice t8)) (h8 : P.underlying t8 = some (.int .u8))
    (hy : (⟨e0, h⟩ : St).eval y = .sv (.one (pstr l))) (hl : l.length ≤ 9223372036854775807) (H : ∀ h', Same h h' → pops P W0 n ops N rest ⟨upd e0 d (.sv (.one (.ro false 1 (l.map byteCell)))), h'⟩) :
    pops P W0 n ops N (⟨some d, .convert ts t y, ty, pos, af, none⟩ :: rest) ⟨e0, h⟩ := by
  refine pops_to hd fun M hM => ?_
  show popConvert P ts t ((⟨e0, h⟩ : St).eval y) h M
  rw [hy]
  refine toBytes hs ht h8 hl fun id hid => hM _ _ ?_
  refine pops_wk (H ⟨h.blk, id + 1⟩ ⟨rfl, by simp only; omega⟩) ⟨⟨fun j b hb => ?_, Nat.le_refl _⟩, fun w m R i v hl => ?_⟩
  · have := hok j b hb
    simp only [Hp.new]
    rw [if_neg (by omega)]
    exact hb
  · have X : Ext w (h.new id (bytesBlk t8 l)) m w ⟨h.blk, id + 1⟩ m := by
      refine Less.ext ⟨fun j b hb => ?_, Nat.le_refl _⟩
      have := hok j b hb
      simp only [Hp.new]
      rw [if_neg (by omega)]
      exact hb
    have hl' : LR w (h.new id (bytesBlk t8 l)) m (upd e0 d (.sv (.one (.own id 0 0 l.length))) i) v := hl
    simp only [upd] at hl' ⊢
    split
    · rename_i hi
      rw [if_pos hi] at hl'
      have hb : (h.new id (bytesBlk t8 l)).blk id = some (bytesBlk t8 l) := blk_new _ _ _
      have := vr_freeze R hb rfl hl'
      have e : (bytesBlk t8 l).es.take l.length = l.map byteCell := List.take_of_length_le (by simp [bytesBlk])
      rw [e] at this
      refine VR.ext this (h' := ⟨h.blk, id + 1⟩) (Less.ext ⟨fun j b hb => ?_, Nat.le_refl _⟩)
      have := hok j b hb
      simp only [Hp.drop, Hp.new]
      rw [if_neg (by omega), if_neg (by omega)]
      exact hb
    · rename_i hi
      rw [if_neg hi] at hl'
      exact hl'.ext X
end Go.Pw
