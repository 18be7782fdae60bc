import Derived.Test.YtokmndkkgbamfaaGreatDoorBytes
import Derived.Test.YtokmndkkgbamfaaGreatDoorNames
import Derived.Test.YtokmndkkgbamfaaGreatDoorPwV
namespace Go.Pw
open Go Go.RowKit Go.Proofs
set_option maxRecDepth 100000
set_option linter.unusedSimpArgs false
set_option linter.unusedVariables false
theorem by3 : bytesOf' Tryz.prog 3 = some 8 := by kernel_rfl
theorem sz3 : szOf Tryz.prog 3 = some 1 := by kernel_rfl
theorem ze3 : zeroOf Tryz.prog 3 = some (.int .i64 0) := by kernel_rfl
theorem has59 : Has Tryz.prog 59 := ⟨_, Tryz.func59, rfl, by kernel_rfl⟩
theorem indexByte_fun (W0 : World) (s : List UInt8) (c : UInt8) : PFun Tryz.prog W0 59 [.one (pstr s), .one (.val (.int .u8 c.toNat))] (.sv (.one (pint (Lib.indexByte s c)))) :=
  pfun_same (P := Tryz.prog) (vals := [.string ⟨s.toArray⟩, .int .u8 c.toNat]) has59 rfl fun w _ => by
    have := Tryz.strings_IndexByte ⟨s.toArray⟩ c.toNat w
    simpa using this
theorem indexByte_not {s : List UInt8} {c : UInt8} (h : c ∉ s) : Lib.indexByte s c = -1 := by
  induction s with
  | nil => rfl
  | cons b l ih =>
    have h1 : ¬ (b == c) = true := fun e => h (by simp [beq_iff_eq.1 e])
    have h2 := ih (fun e => h (by simp [e]))
    unfold Lib.indexByte
    rw [if_neg h1, h2]
    rfl
theorem indexByte_in {s : List UInt8} {c : UInt8} (h : c ∈ s) : 0 ≤ Lib.indexByte s c := by
  have h1 := Lib.indexByte_ge s c
  rcases Int.lt_or_le (Lib.indexByte s c) 0 with h2 | h2
  · have h3 : Lib.indexByte s c = -1 := by omega
    obtain ⟨k, hk⟩ := List.getElem?_of_mem h
    exact absurd hk (Lib.indexByte_none h3 k)
  · exact h2
theorem alnum_low (c : UInt8) : ((decide ((c.toNat : Int) ≥ 48) && decide ((c.toNat : Int) ≤ 57) || decide ((c.toNat : Int) ≥ 97) && decide ((c.toNat : Int) ≤ 122)) || decide ((c.toNat : Int) ≥ 65) && decide ((c.toNat : Int) ≤ 90)) = (letterB c || digitB c) :=
  all_u8 (Q := fun c => ((decide ((c.toNat : Int) ≥ 48) && decide ((c.toNat : Int) ≤ 57) || decide ((c.toNat : Int) ≥ 97) && decide ((c.toNat : Int) ≤ 122)) || decide ((c.toNat : Int) ≥ 65) && decide ((c.toNat : Int) ≤ 90)) = (letterB c || digitB c)) (by decide +kernel) c
theorem ix_dec (s : List UInt8) (c : UInt8) : decide (Lib.indexByte s c ≥ 0) = s.contains c := by
  by_cases h : c ∈ s
  · have := indexByte_in h; simp [h]; omega
  · rw [indexByte_not h]; simp [h]
theorem u8_beq (c : UInt8) (n : Nat) (hn : n < 256) : ((c.toNat : Int) == (n : Int)) = (c == UInt8.ofNat n) := by
  rw [Bool.eq_iff_iff]
  simp only [beq_iff_eq]
  constructor
  · intro h
    have h2 : c.toNat = n := by omega
    rw [← h2]; simp
  · intro h
    subst h
    simp only [UInt8.toNat_ofNat']
    omega
theorem u8_47 (c : UInt8) : ((c.toNat : Int) == 47) = (c == 47) := u8_beq c 47 (by omega)
theorem nodup_take (s : List UInt8) : s.Nodup ↔ ∀ (i : Nat) (c : UInt8), s[i]? = some c → c ∉ s.take i := by
  constructor
  · intro h i c hc hm
    obtain ⟨j, hj, e⟩ := List.mem_iff_getElem.1 hm
    have hj' : j < i := by simp at hj; omega
    have hi := (List.getElem?_eq_some_iff.1 hc)
    obtain ⟨hi, e2⟩ := hi
    rw [List.getElem_take] at e
    have := (List.nodup_iff_pairwise_ne.1 h)
    rw [List.pairwise_iff_getElem] at this
    exact this j i (by omega) hi hj' (by rw [e, e2])
  · intro h
    rw [List.nodup_iff_pairwise_ne, List.pairwise_iff_getElem]
    intro i j hi hj hij e
    refine h j s[j] (List.getElem?_eq_getElem hj) ?_
    rw [← e]
    exact List.mem_iff_getElem.2 ⟨i, by simp; omega, by simp⟩
theorem nodup_drop (s : List UInt8) : s.Nodup ↔ ∀ (i : Nat) (c : UInt8), s[i]? = some c → c ∉ s.drop (i + 1) := by
  constructor
  · intro h i c hc hm
    obtain ⟨hi, e2⟩ := List.getElem?_eq_some_iff.1 hc
    obtain ⟨j, hj, e⟩ := List.mem_iff_getElem.1 hm
    simp at hj e
    have := (List.nodup_iff_pairwise_ne.1 h)
    rw [List.pairwise_iff_getElem] at this
    exact this i (i + 1 + j) hi (by omega) (by omega) (by rw [e2, e])
  · intro h
    rw [List.nodup_iff_pairwise_ne, List.pairwise_iff_getElem]
    intro i j hi hj hij e
    refine h i s[i] (List.getElem?_eq_getElem hi) ?_
    rw [e]
    exact List.mem_iff_getElem.2 ⟨j - (i + 1), by simp; omega, by simp; congr 1; omega⟩
theorem pre_step {Q : Nat → UInt8 → Prop} {s : List UInt8} {j : Nat} {c : UInt8} (hx : s[j]? = some c) (h : ∀ m < j, ∀ c, s[m]? = some c → Q m c) (hq : Q j c) : ∀ m < j + 1, ∀ c, s[m]? = some c → Q m c := by
  intro m hm d hd
  by_cases e : m = j
  · subst e; rw [hx] at hd; obtain rfl := Option.some.inj hd; exact hq
  · exact h m (by omega) d hd
structure Feat where
  has : Int
  sums : Int
  prec : Int
  maxName : Int
  maxPath : Int
  maxSize : Int
  page : Int
  partSize : Int
  forbid : List UInt8
def featPV (x : Feat) : List PV := [pint x.has, pint x.sums, pint x.prec, pint x.maxName, pint x.maxPath, pint x.maxSize, pint x.page, pint x.partSize, pstr x.forbid]
def andI (a b : Int) : Int := IntKind.i64.wrap ((BitVec.ofInt IntKind.i64.bits a &&& BitVec.ofInt IntKind.i64.bits b).toNat : Int)
def andNotI (a b : Int) : Int := IntKind.i64.wrap ((BitVec.ofInt IntKind.i64.bits a &&& ~~~ BitVec.ofInt IntKind.i64.bits b).toNat : Int)
def hasB (x : Feat) (bit : Int) : Bool := andI x.has bit != 0
def fbadB (c : UInt8) : Bool := c == 47 || letterB c || digitB c || decide (128 ≤ c.toNat)
def ffB (s : List UInt8) : Bool := decide s.Nodup && s.all fun c => !fbadB c
def withinB (n lo hi : Int) : Bool := decide (n ≥ lo) && decide (n ≤ hi)
def formFB (x : Feat) : Bool := (((decide (x.has < 0) || decide (x.has > 4095)) || (hasB x 8 && !hasB x 4)) || (hasB x 2048 && !hasB x 64))
def rangeFB (x : Feat) : Bool := (((((!withinB x.prec 1 86400000000000 || !withinB x.maxName 1 255) || !withinB x.maxPath x.maxName 1024) || !withinB x.maxSize 0 1048576) || !withinB x.page 1 1000) || !withinB x.partSize 1 (if 1 > x.maxSize then 1 else x.maxSize))
def featE (x : Feat) : Int := if (formFB x || !ffB x.forbid) = true then 6 else if (andNotI x.sums 62 != 0) = true then 5 else if rangeFB x = true then 7 else 0
abbrev KL : List (List PV) := [[pint 1], [pint 2], [pint 3], [pint 4], [pint 5]]
def kacc : Nat → Int
  | 0 => 0
  | 1 => 2
  | 2 => 6
  | 3 => 14
  | 4 => 30
  | _ => 62
theorem KL_at {i : Nat} (h : i < 5) : KL[i]? = some [pint ((i : Int) + 1)] := by
  match i, h with
  | 0, _ => rfl
  | 1, _ => rfl
  | 2, _ => rfl
  | 3, _ => rfl
  | 4, _ => rfl
theorem kstep {i : Nat} (h : i < 5) : IntKind.i64.wrap ((BitVec.ofInt IntKind.i64.bits (kacc i) ||| BitVec.ofInt IntKind.i64.bits (IntKind.i64.wrap (1 * 2 ^ min ((i : Int) + 1).toNat IntKind.i64.bits))).toNat : Int) = kacc (i + 1) := by
  have : ∀ i : Fin 5, IntKind.i64.wrap ((BitVec.ofInt IntKind.i64.bits (kacc i.val) ||| BitVec.ofInt IntKind.i64.bits (IntKind.i64.wrap (1 * 2 ^ min ((i.val : Int) + 1).toNat IntKind.i64.bits))).toNat : Int) = kacc (i.val + 1) := by decide +kernel
  exact this ⟨i, h⟩
theorem neg_bits {z : Int} (hz : inI64 z) (h : z < 0) : (andNotI z 62 != 0) = true := by
  have h2 : andNotI z 62 ≠ 0 := by
    unfold andNotI
    intro h0
    have hx : (BitVec.ofInt IntKind.i64.bits z &&& ~~~ BitVec.ofInt IntKind.i64.bits 62).toNat < 2 ^ 64 := (BitVec.ofInt IntKind.i64.bits z &&& ~~~ BitVec.ofInt IntKind.i64.bits 62).isLt
    rw [IntKind.wrap_i64] at h0
    have h1 : (BitVec.ofInt IntKind.i64.bits z &&& ~~~ BitVec.ofInt IntKind.i64.bits 62).toNat = 0 := by omega
    have h3 : (BitVec.ofInt IntKind.i64.bits z &&& ~~~ BitVec.ofInt IntKind.i64.bits 62).msb = false := by
      rw [BitVec.msb_eq_decide, h1]; decide
    rw [BitVec.msb_and, BitVec.msb_not] at h3
    have h4 : (BitVec.ofInt IntKind.i64.bits z).msb = true := by
      rw [BitVec.msb_eq_toInt, BitVec.toInt_ofInt]
      simp only [decide_eq_true_eq]
      have hb : ((2 : Nat) ^ IntKind.i64.bits) = 18446744073709551616 := by decide
      rw [hb]
      unfold inI64 at hz
      simp only [Int.bmod]
      split <;> omega
    rw [h4] at h3
    revert h3
    decide
  simpa using h2
theorem ffB_iff (s : List UInt8) : ffB s = true ↔ s.Nodup ∧ ∀ c ∈ s, fbadB c = false := by simp [ffB]
theorem ffB_bad {s : List UInt8} {j : Nat} {c : UInt8} (hx : s[j]? = some c) (h : ((s.take j).contains c || fbadB c) = true) : ffB s = false := by
  rw [Bool.eq_false_iff]
  intro hf
  rw [ffB_iff] at hf
  have h1 := (nodup_take s).1 hf.1 j c hx
  have h2 := hf.2 c (List.mem_of_getElem? hx)
  simp [h1, h2] at h
theorem ffB_bad2 {s : List UInt8} {j : Nat} {c : UInt8} (hx : s[j]? = some c) (h : (fbadB c || (s.drop (j + 1)).contains c) = true) : ffB s = false := by
  rw [Bool.eq_false_iff]
  intro hf
  rw [ffB_iff] at hf
  have h1 := (nodup_drop s).1 hf.1 j c hx
  have h2 := hf.2 c (List.mem_of_getElem? hx)
  simp [h1, h2] at h
theorem ffB_good {s : List UInt8} (h : ∀ m < s.length, ∀ c, s[m]? = some c → ((s.take m).contains c || fbadB c) = false) : ffB s = true := by
  rw [ffB_iff]
  refine ⟨(nodup_take s).2 fun i c hc hm => ?_, fun c hc => ?_⟩
  · have := h i (List.getElem?_eq_some_iff.1 hc).1 c hc
    simp [hm] at this
  · obtain ⟨i, hi, e⟩ := List.mem_iff_getElem.1 hc
    have := h i hi c (by rw [List.getElem?_eq_getElem hi, e])
    simp at this; exact this.2
theorem ffB_good2 {s : List UInt8} (h : ∀ m < s.length, ∀ c, s[m]? = some c → (fbadB c || (s.drop (m + 1)).contains c) = false) : ffB s = true := by
  rw [ffB_iff]
  refine ⟨(nodup_drop s).2 fun i c hc hm => ?_, fun c hc => ?_⟩
  · have := h i (List.getElem?_eq_some_iff.1 hc).1 c hc
    simp [hm] at this
  · obtain ⟨i, hi, e⟩ := List.mem_iff_getElem.1 hc
    have := h i hi c (by rw [List.getElem?_eq_getElem hi, e])
    simp at this; exact this.1
theorem fb_prog (t : Bool) (c : UInt8) : ((((t || c == 47) || ((decide ((c.toNat : Int) ≥ 97) && decide ((c.toNat : Int) ≤ 122)) || (decide ((c.toNat : Int) ≥ 65) && decide ((c.toNat : Int) ≤ 90)))) || (decide ((c.toNat : Int) ≥ 48) && decide ((c.toNat : Int) ≤ 57))) || decide ((c.toNat : Int) ≥ 128)) = (t || fbadB c) :=
  all_u8 (Q := fun c => ((((t || c == 47) || ((decide ((c.toNat : Int) ≥ 97) && decide ((c.toNat : Int) ≤ 122)) || (decide ((c.toNat : Int) ≥ 65) && decide ((c.toNat : Int) ≤ 90)))) || (decide ((c.toNat : Int) ≥ 48) && decide ((c.toNat : Int) ≤ 57))) || decide ((c.toNat : Int) ≥ 128)) = (t || fbadB c)) (by cases t <;> decide +kernel) c
theorem fb_ref (t : Bool) (c : UInt8) : (((c == 47 || (letterB c || digitB c)) || decide ((c.toNat : Int) ≥ 128)) || t) = (fbadB c || t) :=
  all_u8 (Q := fun c => (((c == 47 || (letterB c || digitB c)) || decide ((c.toNat : Int) ≥ 128)) || t) = (fbadB c || t)) (by cases t <;> decide +kernel) c
theorem form_ref (x : Feat) : (((decide (x.has < 0) || decide (x.has > 4095)) || ((andI x.has 8 != 0) && (andI x.has 4 == 0))) || ((andI x.has 2048 != 0) && (andI x.has 64 == 0))) = formFB x := by
  simp [formFB, hasB, bne]
theorem featE_6 {x : Feat} (h : (formFB x || !ffB x.forbid) = true) : featE x = 6 := by rw [featE, if_pos h]
theorem featE_5 {x : Feat} (h : (formFB x || !ffB x.forbid) = false) (h2 : (andNotI x.sums 62 != 0) = true) : featE x = 5 := by rw [featE, if_neg (by rw [h]; simp), if_pos h2]
theorem featE_7 {x : Feat} (h : (formFB x || !ffB x.forbid) = false) (h2 : (andNotI x.sums 62 != 0) = false) (h3 : rangeFB x = true) : featE x = 7 := by rw [featE, if_neg (by rw [h]; simp), if_neg (by rw [h2]; simp), if_pos h3]
theorem featE_0 {x : Feat} (h : (formFB x || !ffB x.forbid) = false) (h2 : (andNotI x.sums 62 != 0) = false) (h3 : rangeFB x = false) : featE x = 0 := by rw [featE, if_neg (by rw [h]; simp), if_neg (by rw [h2]; simp), if_neg (by rw [h3]; simp)]
structure Fault where
  call : Int
  number : Int
  err : Int
  bytes : Int
def faultPV (f : Fault) : List PV := [pint f.call, pint f.number, pint f.err, pint f.bytes]
def sameF (f g : Fault) : Bool := g.call == f.call && g.number == f.number
def errB (f : Fault) : Bool := (((f.err != 16 && f.err != 17) && f.err != 15) && f.err != 14)
def fE (pre : List Fault) (f : Fault) : Int :=
  if (decide (f.call < 0) || decide (f.call ≥ 14)) = true then 5 else if ((decide (f.number < 1) || decide (f.number > 2147483647)) || decide (f.bytes < 0)) = true then 7 else if errB f = true then 6 else if pre.any (sameF f) = true then 4 else 0
def fsE : List Fault → List Fault → Int
  | _, [] => 0
  | pre, f :: r => if fE pre f ≠ 0 then fE pre f else fsE (pre ++ [f]) r
def faultsE (l : List Fault) : Int := if 1000 < l.length then 8 else fsE [] l
theorem fsE_hit {l : List Fault} {i : Nat} {f : Fault} {e : Int} {r : Int} (hx : l[i]? = some f) (h : fE (l.take i) f = e) (h0 : e ≠ 0) (hi : fsE (l.take i) (l.drop i) = r) : r = e := by
  have e2 : l.drop i = f :: l.drop (i + 1) := by
    rw [List.drop_eq_getElem_cons (List.getElem?_eq_some_iff.1 hx).1, (List.getElem?_eq_some_iff.1 hx).2]
  rw [e2, fsE, h, if_pos h0] at hi; exact hi.symm
theorem fsE_step {l : List Fault} {i : Nat} {f : Fault} {r : Int} (hx : l[i]? = some f) (h : fE (l.take i) f = 0) (hi : fsE (l.take i) (l.drop i) = r) : fsE (l.take (i + 1)) (l.drop (i + 1)) = r := by
  have e2 : l.drop i = f :: l.drop (i + 1) := by
    rw [List.drop_eq_getElem_cons (List.getElem?_eq_some_iff.1 hx).1, (List.getElem?_eq_some_iff.1 hx).2]
  rw [e2, fsE, h, if_neg (by simp)] at hi
  rw [List.take_add_one, hx]; exact hi
theorem fsE_end {l : List Fault} {i : Nat} {r : Int} (h : ¬ (i : Int) < (l.length : Nat)) (hi : fsE (l.take i) (l.drop i) = r) : r = 0 := by
  rw [List.drop_eq_nil_of_le (by omega), fsE] at hi; exact hi.symm
theorem call_ref (z : Int) : (decide (z < 0) || decide (z > 13)) = (decide (z < 0) || decide (z ≥ 14)) := by
  rw [Bool.eq_iff_iff]
  simp only [Bool.or_eq_true, decide_eq_true_eq]
  omega
section
variable {P : Program} {W0 : World} {h0 h : Hp} {N : Slot → Hp → Prop} {t e u : TypeId}
theorem ro_nil {f : Bool} {sz : Nat} {xs : List (List PV)} {K : Value → Prop} (hd : P.underlying t = some (.slice e)) (H : ∀ b, (b = true → xs = []) → K (.bool b)) : popBin P t .eql (.sv (.one (.ro f sz xs))) (.sv (.one (.val (.slice none 0 0)))) K := by
  unfold popBin
  refine ⟨by rw [hd]; trivial, H false (fun h => by cases h), fun hx => H true fun _ => hx⟩
/-- A row that was copied: whoever holds it may tell it as one that is only read. -/
def RoWk (W0 : World) (h0 hp : Hp) (sl : Slot) (r : Slot) : Prop := Keeps h0 hp ∧ ∀ w m, HR W0 w hp m → ∀ v, LR w hp m sl v → LR w (h0.back hp) m r v
theorem app_new {sz by_ : Nat} {z : Value} {f : Bool} {ys : List (List PV)} (hb0 : hpOk h0) (ht : P.underlying t = some (.slice e)) (hz : szOf P e = some sz) (hby : bytesOf' P e = some by_) (hze : zeroOf P e = some z) (hzc : z.cells.size = sz) (hpos : 0 < sz)
    (K : Keeps h0 h) (hl : appendLim ys.length by_) (H : ∀ sl hp', RoWk W0 h0 hp' sl (.sv (.one (.ro false sz ys))) → N sl hp') : popAppend P t (.sv (.one (.ro true sz []))) (.sv (.one (.ro f sz ys))) h N := by
  unfold popAppend
  rw [ht]
  simp only [hz, hby, hze, srcOf]
  refine ⟨hpos, hzc, .inr trivial, .inl trivial, by simpa using hl, fun hy => ?_, fun _ id hid => ?_⟩
  · subst hy
    refine H _ _ ⟨K, fun w m R v x => ?_⟩
    have x' : VR w h m (.ro true sz []) v := x
    cases x' with
    | ro0 _ _ a c hc => exact .ro0 _ _ _ _ (fun h => by cases h)
    | ro _ _ _ g off c n vs hn hc hnc hg hav hlen hcell hvs =>
      obtain rfl : 0 = n := hn
      exact .ro0 _ _ _ _ (fun h => by cases h)
  · simp only [List.nil_append, List.length_nil, Nat.zero_add]
    have K2 : Keeps h0 (h.new id ⟨e, sz, ys, 0, true⟩) := ⟨fun j b hj => by
      have hj' := hb0 j b hj
      simp only [Hp.new]
      rw [if_neg (by have := K.2; omega)]
      exact K.1 j b hj, by simp only [Hp.new]; have := K.2; omega⟩
    refine H _ _ ⟨K2, fun w m R v x => ?_⟩
    have hb := blk_new h id ⟨e, sz, ys, 0, true⟩
    have := vr_freeze R hb rfl x
    simp only [List.take_length] at this
    refine VR.ext this (Less.ext ⟨fun j b hj => ?_, Nat.le_refl _⟩)
    have hj' := hb0 j b hj
    simp only [Hp.drop, Hp.new]
    rw [if_neg (by have := K.2; omega), if_neg (by have := K.2; omega)]
    exact K.1 j b hj
theorem endRo {hp : Hp} {sl r : Slot} (H : RoWk W0 h0 hp sl r) : ∃ r' h', SlotWk W0 hp sl h' r' ∧ (r' = r ∧ Same h0 h') :=
  ⟨r, h0.back hp, ⟨Less.back H.1, fun w m R v x => H.2 w m R v x⟩, rfl, rfl, H.1.2⟩
theorem endNil {hp : Hp} {sz : Nat} {full : Bool} (s : Same h0 hp) (hf : full = false ∨ full = true) : ∃ r' h', SlotWk W0 hp (.sv (.one (.val (.slice none 0 0)))) h' r' ∧ (r' = .sv (.one (.ro full sz [])) ∧ Same h0 h') :=
  ⟨_, hp, ⟨Less.refl _, fun w m _ v x => by
    have x' : VR w hp m (.val (.slice none 0 0)) v := x
    cases x' with
    | val _ _ => exact .ro0 _ _ _ _ (fun _ => rfl)⟩, rfl, s⟩
theorem fld_store {id n o : Nat} {cells : List PV} {p : PV} {y : Slot} (hc : h.blk id = some ⟨t, n, [cells], 0, true⟩) (hl : cells.length = n) (ho : o + 1 ≤ n) (hy : slotCells y = some [p]) (hs : szOf P u = some 1)
    (H : ∀ cells', cells'.length = n → N (.tup []) (h.set id ⟨t, n, [cells'], 0, true⟩)) : popStore P u (.sv (.one (.ptr id 0 0 o))) y h N := by
  unfold popStore
  simp only [hc, hy, List.getElem?_cons_zero, List.length_cons, List.length_nil]
  refine ⟨trivial, hs, by omega, ?_⟩
  refine H (splice cells o [p]) ?_
  simp [splice]
  omega
theorem endPtr2 {hp : Hp} {sv : Slot} {id i o : Nat} {b : Blk} {v : Value} (hsv : sv = .tup [.one (.ptr id b.ver i o), .one (.val v)]) (hb : hp.blk id = some b) (hb0 : hpOk h0) (hid : h0.lim ≤ id) (K : Keeps h0 hp) :
    ∃ r' h', SlotWk W0 hp sv h' r' ∧ (r' = .tup [.one (.rop []), .one (.val v)] ∧ Same h0 h') := by
  subst hsv
  refine ⟨_, h0.back hp, ⟨Less.back K, fun w m R u x => ?_⟩, rfl, rfl, K.2⟩
  obtain ⟨vs, e1, hl, hvs⟩ := x
  refine ⟨vs, e1, hl, fun j s' u h1 h2 => ?_⟩
  match j, h1, h2 with
  | 0, h1, h2 =>
    obtain rfl := Option.some.inj h1
    have hp0 : VR w hp m (.ptr id b.ver i o) u := hvs 0 _ u rfl h2
    cases hp0 with
    | ptr _ _ _ _ ad hid2 hver hbl =>
      obtain rfl := hbl b hb rfl
      refine VR.rop [] _ _ (fun _ => undef) (R.live id b hb).lt (fun j c hj e => ?_) (fun j p hj => by simp at hj) (fun j p hj => by simp at hj)
      have hj0 : h0.blk j = some c := hj
      have := hb0 j c hj0
      have := R.inj j id c b (K.1 j c hj0) hb e
      omega
  | 1, h1, h2 =>
    obtain rfl := Option.some.inj h1
    have := hvs 1 _ u rfl h2
    exact SVR.ext this (Less.back K).ext
end
theorem nm58 : (Tryz.f58.name == "runtime.NumGoroutine") = false := by kernel_rfl
theorem alnum_fun (W0 : World) (c : UInt8) :
  PFun Tryz.prog W0 58 [.one (.val (.int .u8 c.toNat))] (.sv (.one (pbool (letterB c || digitB c)))) := by
 intro h
 refine pcalls1 (n := 25) Tryz.func58 rfl nm58 rfl fun hb => ?_
 refine pwp_then fun N1 hN1 => ?_
 refine pwp_reg fun R2 hR2 => ?_
 refine pops_mv (.inr rfl) rfl (by simp only [St.eval, constSlot] <;> rfl) ?_
 refine pops_done (hR2 _ ?_)
 clear hR2 R2
 try simp only [thenK, scopeK]
 refine hN1 _ ?_
 clear hN1 N1
 refine pwp_then fun N3 hN3 => ?_
 refine pwp_reg fun R4 hR4 => ?_
 refine pops_mv (.inl rfl) rfl (by simp only [St.eval, upd_at, Nat.reduceEqDiff, if_true, if_false] <;> rfl) ?_
 refine pops_to rfl fun M hM => ?_
 simp only [pop, St.eval, constSlot, upd_at, Nat.reduceEqDiff, if_true, if_false, popBin, binK, intK, strK, eqK, eq_self, true_and, and_true]
 refine hM _ _ ?_
 clear hM M
 refine pops_mv (.inl rfl) rfl (by simp only [St.eval, upd_at, Nat.reduceEqDiff, if_true, if_false] <;> rfl) ?_
 apply pops_and0 3 5 8 [6, 7] (by simp only [upd_at, Nat.reduceEqDiff, if_true, if_false] <;> rfl)
 ·skip
  intro g5_0 J5 hJ5
  simp only [List.take_succ_cons, List.take_zero]
  simp only [anyAt_cons, anyAt_nil] at hJ5
  refine pops_mvg (.inl rfl) rfl rfl (by simp only [upd_at, Nat.reduceEqDiff, if_true, if_false, g5_0]) (by simp only [St.eval, upd_at, Nat.reduceEqDiff, if_true, if_false, g5_0] <;> rfl) ?_
  refine pops_do rfl rfl (by simp only [upd_at, Nat.reduceEqDiff, if_true, if_false, g5_0]) fun M hM => ?_
  simp only [pop, St.eval, constSlot, upd_at, Nat.reduceEqDiff, if_true, if_false, popBin, binK, intK, strK, eqK, eq_self, true_and, and_true, g5_0]
  refine hM _ _ ?_
  clear hM M
  refine pops_to rfl fun M hM => ?_
  simp only [pop, St.eval, constSlot, upd_at, Nat.reduceEqDiff, if_true, if_false, popIf, true_implies, false_implies, Bool.true_eq_false, Bool.false_eq_true, reduceCtorEq, true_and, and_true, g5_0]
  refine hM _ _ ?_
  clear hM M
  exact pops_done (hJ5 _ (wk_same (wk_any ((wk_any (Wk.refl _ _))))))
 ·skip
  intro g5_0 J5 hJ5
  simp only [List.take_succ_cons, List.take_zero]
  simp only [anyAt_cons, anyAt_nil] at hJ5
  refine pops_off (b := false) rfl rfl (by simp only [upd_at, Nat.reduceEqDiff, if_true, if_false, g5_0]) (by decide) ?_
  refine pops_off (b := false) rfl rfl (by simp only [upd_at, Nat.reduceEqDiff, if_true, if_false, g5_0]) (by decide) ?_
  refine pops_to rfl fun M hM => ?_
  simp only [pop, St.eval, constSlot, upd_at, Nat.reduceEqDiff, if_true, if_false, popIf, true_implies, false_implies, Bool.true_eq_false, Bool.false_eq_true, reduceCtorEq, true_and, and_true, g5_0]
  refine hM _ _ ?_
  clear hM M
  exact pops_done (hJ5 _ (wk_same (wk_any ((wk_any (Wk.refl _ _))))))
 simp only [List.drop_succ_cons, List.drop_zero, anyAt_cons, anyAt_nil]
 refine pops_mv (.inl rfl) rfl (by simp only [St.eval, upd_at, Nat.reduceEqDiff, if_true, if_false] <;> rfl) ?_
 apply pops_or0 7 9 16 [10, 11, 12, 13, 14, 15] (by simp only [upd_at, Nat.reduceEqDiff, if_true, if_false] <;> rfl)
 ·skip
  intro g9_0 J6 hJ6
  simp only [List.take_succ_cons, List.take_zero]
  simp only [anyAt_cons, anyAt_nil] at hJ6
  refine pops_mvg (.inl rfl) rfl rfl (by simp only [upd_at, Nat.reduceEqDiff, if_true, if_false, g9_0]) (by simp only [St.eval, upd_at, Nat.reduceEqDiff, if_true, if_false, g9_0] <;> rfl) ?_
  refine pops_do rfl rfl (by simp only [upd_at, Nat.reduceEqDiff, if_true, if_false, g9_0]) fun M hM => ?_
  simp only [pop, St.eval, constSlot, upd_at, Nat.reduceEqDiff, if_true, if_false, popBin, binK, intK, strK, eqK, eq_self, true_and, and_true, g9_0]
  refine hM _ _ ?_
  clear hM M
  refine pops_mvg (.inl rfl) rfl rfl (by simp only [upd_at, Nat.reduceEqDiff, if_true, if_false, g9_0]) (by simp only [St.eval, upd_at, Nat.reduceEqDiff, if_true, if_false, g9_0] <;> rfl) ?_
  apply pops_and0 3 12 15 [13, 14] (by simp only [upd_at, Nat.reduceEqDiff, if_true, if_false, g9_0] <;> rfl)
  ·skip
   intro g12_1 J7 hJ7
   simp only [List.take_succ_cons, List.take_zero]
   simp only [anyAt_cons, anyAt_nil] at hJ7
   refine pops_mvg (.inl rfl) rfl rfl (by simp only [upd_at, Nat.reduceEqDiff, if_true, if_false, g9_0, g12_1]) (by simp only [St.eval, upd_at, Nat.reduceEqDiff, if_true, if_false, g9_0, g12_1] <;> rfl) ?_
   refine pops_do rfl rfl (by simp only [upd_at, Nat.reduceEqDiff, if_true, if_false, g9_0, g12_1]) fun M hM => ?_
   simp only [pop, St.eval, constSlot, upd_at, Nat.reduceEqDiff, if_true, if_false, popBin, binK, intK, strK, eqK, eq_self, true_and, and_true, g9_0, g12_1]
   refine hM _ _ ?_
   clear hM M
   refine pops_do rfl rfl (by simp only [upd_at, Nat.reduceEqDiff, if_true, if_false, g9_0, g12_1]) fun M hM => ?_
   simp only [pop, St.eval, constSlot, upd_at, Nat.reduceEqDiff, if_true, if_false, popIf, true_implies, false_implies, Bool.true_eq_false, Bool.false_eq_true, reduceCtorEq, true_and, and_true, g9_0, g12_1]
   refine hM _ _ ?_
   clear hM M
   exact pops_done (hJ7 _ (wk_same (wk_any ((wk_any (Wk.refl _ _))))))
  ·skip
   intro g12_1 J7 hJ7
   simp only [List.take_succ_cons, List.take_zero]
   simp only [anyAt_cons, anyAt_nil] at hJ7
   refine pops_off (b := false) rfl rfl (by simp only [upd_at, Nat.reduceEqDiff, if_true, if_false, g9_0, g12_1]) (by decide) ?_
   refine pops_off (b := false) rfl rfl (by simp only [upd_at, Nat.reduceEqDiff, if_true, if_false, g9_0, g12_1]) (by decide) ?_
   refine pops_do rfl rfl (by simp only [upd_at, Nat.reduceEqDiff, if_true, if_false, g9_0, g12_1]) fun M hM => ?_
   simp only [pop, St.eval, constSlot, upd_at, Nat.reduceEqDiff, if_true, if_false, popIf, true_implies, false_implies, Bool.true_eq_false, Bool.false_eq_true, reduceCtorEq, true_and, and_true, g9_0, g12_1]
   refine hM _ _ ?_
   clear hM M
   exact pops_done (hJ7 _ (wk_same (wk_any ((wk_any (Wk.refl _ _))))))
  simp only [List.drop_succ_cons, List.drop_zero, anyAt_cons, anyAt_nil]
  refine pops_to rfl fun M hM => ?_
  simp only [pop, St.eval, constSlot, upd_at, Nat.reduceEqDiff, if_true, if_false, popIf, true_implies, false_implies, Bool.true_eq_false, Bool.false_eq_true, reduceCtorEq, true_and, and_true, g9_0]
  refine hM _ _ ?_
  clear hM M
  exact pops_done (hJ6 _ (wk_same (wk_any ((wk_any ((wk_any ((wk_any ((wk_any ((wk_any (Wk.refl _ _))))))))))))))
 ·skip
  intro g9_0 J6 hJ6
  simp only [List.take_succ_cons, List.take_zero]
  simp only [anyAt_cons, anyAt_nil] at hJ6
  refine pops_off (b := true) rfl rfl (by simp only [upd_at, Nat.reduceEqDiff, if_true, if_false, g9_0]) (by decide) ?_
  refine pops_off (b := true) rfl rfl (by simp only [upd_at, Nat.reduceEqDiff, if_true, if_false, g9_0]) (by decide) ?_
  refine pops_off (b := true) rfl rfl (by simp only [upd_at, Nat.reduceEqDiff, if_true, if_false, g9_0]) (by decide) ?_
  refine pops_off0 rfl rfl (by simp only [upd_at, Nat.reduceEqDiff, if_true, if_false, g9_0]) ?_
  refine pops_off0 rfl rfl (by simp only [upd_at, Nat.reduceEqDiff, if_true, if_false, g9_0]) ?_
  refine pops_off (b := true) rfl rfl (by simp only [upd_at, Nat.reduceEqDiff, if_true, if_false, g9_0]) (by decide) ?_
  refine pops_to rfl fun M hM => ?_
  simp only [pop, St.eval, constSlot, upd_at, Nat.reduceEqDiff, if_true, if_false, popIf, true_implies, false_implies, Bool.true_eq_false, Bool.false_eq_true, reduceCtorEq, true_and, and_true, g9_0]
  refine hM _ _ ?_
  clear hM M
  exact pops_done (hJ6 _ (wk_same (wk_any ((wk_any ((wk_any ((wk_any ((wk_any ((wk_any (Wk.refl _ _))))))))))))))
 simp only [List.drop_succ_cons, List.drop_zero, anyAt_cons, anyAt_nil]
 refine pops_mv (.inl rfl) rfl (by simp only [St.eval, upd_at, Nat.reduceEqDiff, if_true, if_false] <;> rfl) ?_
 apply pops_or0 7 17 24 [18, 19, 20, 21, 22, 23] (by simp only [upd_at, Nat.reduceEqDiff, if_true, if_false] <;> rfl)
 ·skip
  intro g17_0 J8 hJ8
  simp only [List.take_succ_cons, List.take_zero]
  simp only [anyAt_cons, anyAt_nil] at hJ8
  refine pops_mvg (.inl rfl) rfl rfl (by simp only [upd_at, Nat.reduceEqDiff, if_true, if_false, g17_0]) (by simp only [St.eval, upd_at, Nat.reduceEqDiff, if_true, if_false, g17_0] <;> rfl) ?_
  refine pops_do rfl rfl (by simp only [upd_at, Nat.reduceEqDiff, if_true, if_false, g17_0]) fun M hM => ?_
  simp only [pop, St.eval, constSlot, upd_at, Nat.reduceEqDiff, if_true, if_false, popBin, binK, intK, strK, eqK, eq_self, true_and, and_true, g17_0]
  refine hM _ _ ?_
  clear hM M
  refine pops_mvg (.inl rfl) rfl rfl (by simp only [upd_at, Nat.reduceEqDiff, if_true, if_false, g17_0]) (by simp only [St.eval, upd_at, Nat.reduceEqDiff, if_true, if_false, g17_0] <;> rfl) ?_
  apply pops_and0 3 20 23 [21, 22] (by simp only [upd_at, Nat.reduceEqDiff, if_true, if_false, g17_0] <;> rfl)
  ·skip
   intro g20_1 J9 hJ9
   simp only [List.take_succ_cons, List.take_zero]
   simp only [anyAt_cons, anyAt_nil] at hJ9
   refine pops_mvg (.inl rfl) rfl rfl (by simp only [upd_at, Nat.reduceEqDiff, if_true, if_false, g17_0, g20_1]) (by simp only [St.eval, upd_at, Nat.reduceEqDiff, if_true, if_false, g17_0, g20_1] <;> rfl) ?_
   refine pops_do rfl rfl (by simp only [upd_at, Nat.reduceEqDiff, if_true, if_false, g17_0, g20_1]) fun M hM => ?_
   simp only [pop, St.eval, constSlot, upd_at, Nat.reduceEqDiff, if_true, if_false, popBin, binK, intK, strK, eqK, eq_self, true_and, and_true, g17_0, g20_1]
   refine hM _ _ ?_
   clear hM M
   refine pops_do rfl rfl (by simp only [upd_at, Nat.reduceEqDiff, if_true, if_false, g17_0, g20_1]) fun M hM => ?_
   simp only [pop, St.eval, constSlot, upd_at, Nat.reduceEqDiff, if_true, if_false, popIf, true_implies, false_implies, Bool.true_eq_false, Bool.false_eq_true, reduceCtorEq, true_and, and_true, g17_0, g20_1]
   refine hM _ _ ?_
   clear hM M
   exact pops_done (hJ9 _ (wk_same (wk_any ((wk_any (Wk.refl _ _))))))
  ·skip
   intro g20_1 J9 hJ9
   simp only [List.take_succ_cons, List.take_zero]
   simp only [anyAt_cons, anyAt_nil] at hJ9
   refine pops_off (b := false) rfl rfl (by simp only [upd_at, Nat.reduceEqDiff, if_true, if_false, g17_0, g20_1]) (by decide) ?_
   refine pops_off (b := false) rfl rfl (by simp only [upd_at, Nat.reduceEqDiff, if_true, if_false, g17_0, g20_1]) (by decide) ?_
   refine pops_do rfl rfl (by simp only [upd_at, Nat.reduceEqDiff, if_true, if_false, g17_0, g20_1]) fun M hM => ?_
   simp only [pop, St.eval, constSlot, upd_at, Nat.reduceEqDiff, if_true, if_false, popIf, true_implies, false_implies, Bool.true_eq_false, Bool.false_eq_true, reduceCtorEq, true_and, and_true, g17_0, g20_1]
   refine hM _ _ ?_
   clear hM M
   exact pops_done (hJ9 _ (wk_same (wk_any ((wk_any (Wk.refl _ _))))))
  simp only [List.drop_succ_cons, List.drop_zero, anyAt_cons, anyAt_nil]
  refine pops_to rfl fun M hM => ?_
  simp only [pop, St.eval, constSlot, upd_at, Nat.reduceEqDiff, if_true, if_false, popIf, true_implies, false_implies, Bool.true_eq_false, Bool.false_eq_true, reduceCtorEq, true_and, and_true, g17_0]
  refine hM _ _ ?_
  clear hM M
  exact pops_done (hJ8 _ (wk_same (wk_any ((wk_any ((wk_any ((wk_any ((wk_any ((wk_any (Wk.refl _ _))))))))))))))
 ·skip
  intro g17_0 J8 hJ8
  simp only [List.take_succ_cons, List.take_zero]
  simp only [anyAt_cons, anyAt_nil] at hJ8
  refine pops_off (b := true) rfl rfl (by simp only [upd_at, Nat.reduceEqDiff, if_true, if_false, g17_0]) (by decide) ?_
  refine pops_off (b := true) rfl rfl (by simp only [upd_at, Nat.reduceEqDiff, if_true, if_false, g17_0]) (by decide) ?_
  refine pops_off (b := true) rfl rfl (by simp only [upd_at, Nat.reduceEqDiff, if_true, if_false, g17_0]) (by decide) ?_
  refine pops_off0 rfl rfl (by simp only [upd_at, Nat.reduceEqDiff, if_true, if_false, g17_0]) ?_
  refine pops_off0 rfl rfl (by simp only [upd_at, Nat.reduceEqDiff, if_true, if_false, g17_0]) ?_
  refine pops_off (b := true) rfl rfl (by simp only [upd_at, Nat.reduceEqDiff, if_true, if_false, g17_0]) (by decide) ?_
  refine pops_to rfl fun M hM => ?_
  simp only [pop, St.eval, constSlot, upd_at, Nat.reduceEqDiff, if_true, if_false, popIf, true_implies, false_implies, Bool.true_eq_false, Bool.false_eq_true, reduceCtorEq, true_and, and_true, g17_0]
  refine hM _ _ ?_
  clear hM M
  exact pops_done (hJ8 _ (wk_same (wk_any ((wk_any ((wk_any ((wk_any ((wk_any ((wk_any (Wk.refl _ _))))))))))))))
 simp only [List.drop_succ_cons, List.drop_zero, anyAt_cons, anyAt_nil]
 refine pops_mv (.inr rfl) rfl (by simp only [St.eval, upd_at, Nat.reduceEqDiff, if_true, if_false] <;> rfl) ?_
 refine pops_done (hR4 _ ?_)
 clear hR4 R4
 try simp only [thenK, scopeK]
 refine hN3 _ ?_
 clear hN3 N3
 refine pwp_ret ?_
 simp only [thenK, blockK, scopeK, bodyK]
 refine ⟨_, rfl, endFun (Same.refl _) ?_⟩
 try simp only [upd_at, Nat.reduceEqDiff, if_true, if_false]
 all_goals
  rw [alnum_low]

theorem nm101 : (Tryz.f101.name == "runtime.NumGoroutine") = false := by kernel_rfl
theorem has_fun (W0 : World) (x : Feat) (bit : Int) :
  PFun Tryz.prog W0 101 [.one (pint bit), .one (.rop (featPV x))] (.sv (.one (pbool (hasB x bit)))) := by
 intro h
 refine pcalls2 (n := 9) Tryz.func101 rfl nm101 rfl fun hb => ?_
 refine pwp_then fun N1 hN1 => ?_
 refine pwp_reg fun R2 hR2 => ?_
 refine pops_mv (.inr rfl) rfl (by simp only [St.eval, constSlot] <;> rfl) ?_
 refine pops_done (hR2 _ ?_)
 clear hR2 R2
 try simp only [thenK, scopeK]
 refine hN1 _ ?_
 clear hN1 N1
 refine pwp_then fun N3 hN3 => ?_
 refine pwp_reg fun R4 hR4 => ?_
 refine pops_to rfl fun M hM => ?_
 simp only [pop, St.eval, constSlot, upd_at, Nat.reduceEqDiff, if_true, if_false, popFieldAddr, fieldOf, List.drop_succ_cons, List.drop_zero, List.getElem?_toArray, List.getElem?_cons_zero, List.getElem?_cons_succ, Tryz.underlying23, sz3, featPV]
 refine ⟨⟨_, rfl⟩, hM _ _ ?_⟩
 clear hM M
 refine pops_to rfl fun M hM => ?_
 simp only [pop, St.eval, constSlot, upd_at, Nat.reduceEqDiff, if_true, if_false, popLoad, loadK, isAggD, List.drop_zero, List.getElem?_toArray, List.getElem?_cons_zero, List.getElem?_cons_succ, Bool.false_eq_true, Tryz.underlying3, sz3, eq_self, true_and, and_true, featPV]
 refine hM _ _ ?_
 clear hM M
 refine pops_mv (.inl rfl) rfl (by simp only [St.eval, upd_at, Nat.reduceEqDiff, if_true, if_false, featPV] <;> rfl) ?_
 refine pops_to rfl fun M hM => ?_
 simp only [pop, St.eval, constSlot, upd_at, Nat.reduceEqDiff, if_true, if_false, popBin, binK, intK, strK, eqK, eq_self, true_and, and_true, featPV]
 refine hM _ _ ?_
 clear hM M
 refine pops_to rfl fun M hM => ?_
 simp only [pop, St.eval, constSlot, upd_at, Nat.reduceEqDiff, if_true, if_false, popBin, binK, intK, strK, eqK, Tryz.underlying3, isPtr, eq_self, true_and, and_true, featPV]
 refine hM _ _ ?_
 clear hM M
 refine pops_mv (.inr rfl) rfl (by simp only [St.eval, upd_at, Nat.reduceEqDiff, if_true, if_false, featPV] <;> rfl) ?_
 refine pops_done (hR4 _ ?_)
 clear hR4 R4
 try simp only [thenK, scopeK]
 refine hN3 _ ?_
 clear hN3 N3
 refine pwp_ret ?_
 simp only [thenK, blockK, scopeK, bodyK]
 refine ⟨_, rfl, endFun (Same.refl _) ?_⟩
 try simp only [upd_at, Nat.reduceEqDiff, if_true, if_false, featPV]
 all_goals
  rfl

theorem nm102 : (Tryz.f102.name == "runtime.NumGoroutine") = false := by kernel_rfl
theorem within_fun (W0 : World) (n lo hi : Int) :
  PFun Tryz.prog W0 102 [.one (pint n), .one (pint lo), .one (pint hi)] (.sv (.one (pbool (withinB n lo hi)))) := by
 intro h
 refine pcalls3 (n := 15) Tryz.func102 rfl nm102 rfl fun hb => ?_
 refine pwp_then fun N1 hN1 => ?_
 refine pwp_reg fun R2 hR2 => ?_
 refine pops_mv (.inr rfl) rfl (by simp only [St.eval, constSlot] <;> rfl) ?_
 refine pops_done (hR2 _ ?_)
 clear hR2 R2
 try simp only [thenK, scopeK]
 refine hN1 _ ?_
 clear hN1 N1
 refine pwp_then fun N3 hN3 => ?_
 refine pwp_reg fun R4 hR4 => ?_
 refine pops_mv (.inl rfl) rfl (by simp only [St.eval, upd_at, Nat.reduceEqDiff, if_true, if_false] <;> rfl) ?_
 refine pops_mv (.inl rfl) rfl (by simp only [St.eval, upd_at, Nat.reduceEqDiff, if_true, if_false] <;> rfl) ?_
 refine pops_to rfl fun M hM => ?_
 simp only [pop, St.eval, constSlot, upd_at, Nat.reduceEqDiff, if_true, if_false, popBin, binK, intK, strK, eqK, eq_self, true_and, and_true]
 refine hM _ _ ?_
 clear hM M
 refine pops_mv (.inl rfl) rfl (by simp only [St.eval, upd_at, Nat.reduceEqDiff, if_true, if_false] <;> rfl) ?_
 apply pops_and0 4 10 14 [11, 12, 13] (by simp only [upd_at, Nat.reduceEqDiff, if_true, if_false] <;> rfl)
 ·skip
  intro g10_0 J5 hJ5
  simp only [List.take_succ_cons, List.take_zero]
  simp only [anyAt_cons, anyAt_nil] at hJ5
  refine pops_mvg (.inl rfl) rfl rfl (by simp only [upd_at, Nat.reduceEqDiff, if_true, if_false, g10_0]) (by simp only [St.eval, upd_at, Nat.reduceEqDiff, if_true, if_false, g10_0] <;> rfl) ?_
  refine pops_mvg (.inl rfl) rfl rfl (by simp only [upd_at, Nat.reduceEqDiff, if_true, if_false, g10_0]) (by simp only [St.eval, upd_at, Nat.reduceEqDiff, if_true, if_false, g10_0] <;> rfl) ?_
  refine pops_do rfl rfl (by simp only [upd_at, Nat.reduceEqDiff, if_true, if_false, g10_0]) fun M hM => ?_
  simp only [pop, St.eval, constSlot, upd_at, Nat.reduceEqDiff, if_true, if_false, popBin, binK, intK, strK, eqK, eq_self, true_and, and_true, g10_0]
  refine hM _ _ ?_
  clear hM M
  refine pops_to rfl fun M hM => ?_
  simp only [pop, St.eval, constSlot, upd_at, Nat.reduceEqDiff, if_true, if_false, popIf, true_implies, false_implies, Bool.true_eq_false, Bool.false_eq_true, reduceCtorEq, true_and, and_true, g10_0]
  refine hM _ _ ?_
  clear hM M
  exact pops_done (hJ5 _ (wk_same (wk_any ((wk_any ((wk_any (Wk.refl _ _))))))))
 ·skip
  intro g10_0 J5 hJ5
  simp only [List.take_succ_cons, List.take_zero]
  simp only [anyAt_cons, anyAt_nil] at hJ5
  refine pops_off (b := false) rfl rfl (by simp only [upd_at, Nat.reduceEqDiff, if_true, if_false, g10_0]) (by decide) ?_
  refine pops_off (b := false) rfl rfl (by simp only [upd_at, Nat.reduceEqDiff, if_true, if_false, g10_0]) (by decide) ?_
  refine pops_off (b := false) rfl rfl (by simp only [upd_at, Nat.reduceEqDiff, if_true, if_false, g10_0]) (by decide) ?_
  refine pops_to rfl fun M hM => ?_
  simp only [pop, St.eval, constSlot, upd_at, Nat.reduceEqDiff, if_true, if_false, popIf, true_implies, false_implies, Bool.true_eq_false, Bool.false_eq_true, reduceCtorEq, true_and, and_true, g10_0]
  refine hM _ _ ?_
  clear hM M
  exact pops_done (hJ5 _ (wk_same (wk_any ((wk_any ((wk_any (Wk.refl _ _))))))))
 simp only [List.drop_succ_cons, List.drop_zero, anyAt_cons, anyAt_nil]
 refine pops_mv (.inr rfl) rfl (by simp only [St.eval, upd_at, Nat.reduceEqDiff, if_true, if_false] <;> rfl) ?_
 refine pops_done (hR4 _ ?_)
 clear hR4 R4
 try simp only [thenK, scopeK]
 refine hN3 _ ?_
 clear hN3 N3
 refine pwp_ret ?_
 simp only [thenK, blockK, scopeK, bodyK]
 refine ⟨_, rfl, endFun (Same.refl _) ?_⟩
 try simp only [upd_at, Nat.reduceEqDiff, if_true, if_false]
 all_goals
  rfl

theorem nm60 : (Tryz.f60.name == "runtime.NumGoroutine") = false := by kernel_rfl
theorem withinRef_fun (W0 : World) (n lo hi : Int) :
  PFun Tryz.prog W0 60 [.one (pint n), .one (pint lo), .one (pint hi)] (.sv (.one (pbool (withinB n lo hi)))) := by
 intro h
 refine pcalls3 (n := 15) Tryz.func60 rfl nm60 rfl fun hb => ?_
 refine pwp_then fun N1 hN1 => ?_
 refine pwp_reg fun R2 hR2 => ?_
 refine pops_mv (.inr rfl) rfl (by simp only [St.eval, constSlot] <;> rfl) ?_
 refine pops_done (hR2 _ ?_)
 clear hR2 R2
 try simp only [thenK, scopeK]
 refine hN1 _ ?_
 clear hN1 N1
 refine pwp_then fun N3 hN3 => ?_
 refine pwp_reg fun R4 hR4 => ?_
 refine pops_mv (.inl rfl) rfl (by simp only [St.eval, upd_at, Nat.reduceEqDiff, if_true, if_false] <;> rfl) ?_
 refine pops_mv (.inl rfl) rfl (by simp only [St.eval, upd_at, Nat.reduceEqDiff, if_true, if_false] <;> rfl) ?_
 refine pops_to rfl fun M hM => ?_
 simp only [pop, St.eval, constSlot, upd_at, Nat.reduceEqDiff, if_true, if_false, popBin, binK, intK, strK, eqK, eq_self, true_and, and_true]
 refine hM _ _ ?_
 clear hM M
 refine pops_mv (.inl rfl) rfl (by simp only [St.eval, upd_at, Nat.reduceEqDiff, if_true, if_false] <;> rfl) ?_
 apply pops_and0 4 10 14 [11, 12, 13] (by simp only [upd_at, Nat.reduceEqDiff, if_true, if_false] <;> rfl)
 ·skip
  intro g10_0 J5 hJ5
  simp only [List.take_succ_cons, List.take_zero]
  simp only [anyAt_cons, anyAt_nil] at hJ5
  refine pops_mvg (.inl rfl) rfl rfl (by simp only [upd_at, Nat.reduceEqDiff, if_true, if_false, g10_0]) (by simp only [St.eval, upd_at, Nat.reduceEqDiff, if_true, if_false, g10_0] <;> rfl) ?_
  refine pops_mvg (.inl rfl) rfl rfl (by simp only [upd_at, Nat.reduceEqDiff, if_true, if_false, g10_0]) (by simp only [St.eval, upd_at, Nat.reduceEqDiff, if_true, if_false, g10_0] <;> rfl) ?_
  refine pops_do rfl rfl (by simp only [upd_at, Nat.reduceEqDiff, if_true, if_false, g10_0]) fun M hM => ?_
  simp only [pop, St.eval, constSlot, upd_at, Nat.reduceEqDiff, if_true, if_false, popBin, binK, intK, strK, eqK, eq_self, true_and, and_true, g10_0]
  refine hM _ _ ?_
  clear hM M
  refine pops_to rfl fun M hM => ?_
  simp only [pop, St.eval, constSlot, upd_at, Nat.reduceEqDiff, if_true, if_false, popIf, true_implies, false_implies, Bool.true_eq_false, Bool.false_eq_true, reduceCtorEq, true_and, and_true, g10_0]
  refine hM _ _ ?_
  clear hM M
  exact pops_done (hJ5 _ (wk_same (wk_any ((wk_any ((wk_any (Wk.refl _ _))))))))
 ·skip
  intro g10_0 J5 hJ5
  simp only [List.take_succ_cons, List.take_zero]
  simp only [anyAt_cons, anyAt_nil] at hJ5
  refine pops_off (b := false) rfl rfl (by simp only [upd_at, Nat.reduceEqDiff, if_true, if_false, g10_0]) (by decide) ?_
  refine pops_off (b := false) rfl rfl (by simp only [upd_at, Nat.reduceEqDiff, if_true, if_false, g10_0]) (by decide) ?_
  refine pops_off (b := false) rfl rfl (by simp only [upd_at, Nat.reduceEqDiff, if_true, if_false, g10_0]) (by decide) ?_
  refine pops_to rfl fun M hM => ?_
  simp only [pop, St.eval, constSlot, upd_at, Nat.reduceEqDiff, if_true, if_false, popIf, true_implies, false_implies, Bool.true_eq_false, Bool.false_eq_true, reduceCtorEq, true_and, and_true, g10_0]
  refine hM _ _ ?_
  clear hM M
  exact pops_done (hJ5 _ (wk_same (wk_any ((wk_any ((wk_any (Wk.refl _ _))))))))
 simp only [List.drop_succ_cons, List.drop_zero, anyAt_cons, anyAt_nil]
 refine pops_mv (.inr rfl) rfl (by simp only [St.eval, upd_at, Nat.reduceEqDiff, if_true, if_false] <;> rfl) ?_
 refine pops_done (hR4 _ ?_)
 clear hR4 R4
 try simp only [thenK, scopeK]
 refine hN3 _ ?_
 clear hN3 N3
 refine pwp_ret ?_
 simp only [thenK, blockK, scopeK, bodyK]
 refine ⟨_, rfl, endFun (Same.refl _) ?_⟩
 try simp only [upd_at, Nat.reduceEqDiff, if_true, if_false]
 all_goals
  rfl

theorem nm104 : (Tryz.f104.name == "runtime.NumGoroutine") = false := by kernel_rfl
theorem kinds_fun (W0 : World) :
  PFun Tryz.prog W0 104 [] (.sv (.one (.ro true 1 KL))) := by
 intro h
 refine pcalls0 (n := 2) Tryz.func104 rfl nm104 rfl fun hb => ?_
 refine pwp_then fun N1 hN1 => ?_
 refine pwp_reg fun R2 hR2 => ?_
 refine pops_mv (.inr rfl) rfl (by simp only [St.eval, constSlot] <;> rfl) ?_
 refine pops_done (hR2 _ ?_)
 clear hR2 R2
 try simp only [thenK, scopeK]
 refine hN1 _ ?_
 clear hN1 N1
 refine pwp_then fun N3 hN3 => ?_
 refine pwp_reg fun R4 hR4 => ?_
 refine pops_to rfl fun M hM => ?_
 simp only [pop, St.eval, constSlot, upd_at, Nat.reduceEqDiff, if_true, if_false, popBuildSlice, slotCells, List.toList_toArray, List.map_cons, List.map_nil, List.mapM_cons, List.mapM_nil, Option.bind_eq_bind, Option.bind_some, Option.pure_def, Tryz.underlying54, sz3, ze3, by3, eq_self, true_and, and_true, str_list, str_size, str_app, str_cut, str_get]
 refine ⟨by decide, by decide, rfl, rfl, by simp, by decide, rfl, hM _ _ ?_⟩
 clear hM M
 refine pops_mv (.inr rfl) rfl (by simp only [St.eval, upd_at, Nat.reduceEqDiff, if_true, if_false] <;> rfl) ?_
 refine pops_done (hR4 _ ?_)
 clear hR4 R4
 try simp only [thenK, scopeK]
 refine hN3 _ ?_
 clear hN3 N3
 refine pwp_ret ?_
 simp only [thenK, blockK, scopeK, bodyK]
 refine ⟨_, rfl, endFun (Same.refl _) ?_⟩
 try simp only [upd_at, Nat.reduceEqDiff, if_true, if_false]
 all_goals
  rfl

theorem nm21 : (Tryz.f21.name == "runtime.NumGoroutine") = false := by kernel_rfl
theorem kindsRef_fun (W0 : World) :
  PFun Tryz.prog W0 21 [] (.sv (.one (.ro true 1 KL))) := by
 intro h
 refine pcalls0 (n := 2) Tryz.func21 rfl nm21 rfl fun hb => ?_
 refine pwp_then fun N1 hN1 => ?_
 refine pwp_reg fun R2 hR2 => ?_
 refine pops_mv (.inr rfl) rfl (by simp only [St.eval, constSlot] <;> rfl) ?_
 refine pops_done (hR2 _ ?_)
 clear hR2 R2
 try simp only [thenK, scopeK]
 refine hN1 _ ?_
 clear hN1 N1
 refine pwp_then fun N3 hN3 => ?_
 refine pwp_reg fun R4 hR4 => ?_
 refine pops_to rfl fun M hM => ?_
 simp only [pop, St.eval, constSlot, upd_at, Nat.reduceEqDiff, if_true, if_false, popBuildSlice, slotCells, List.toList_toArray, List.map_cons, List.map_nil, List.mapM_cons, List.mapM_nil, Option.bind_eq_bind, Option.bind_some, Option.pure_def, Tryz.underlying54, sz3, ze3, by3, eq_self, true_and, and_true, str_list, str_size, str_app, str_cut, str_get]
 refine ⟨by decide, by decide, rfl, rfl, by simp, by decide, rfl, hM _ _ ?_⟩
 clear hM M
 refine pops_mv (.inr rfl) rfl (by simp only [St.eval, upd_at, Nat.reduceEqDiff, if_true, if_false] <;> rfl) ?_
 refine pops_done (hR4 _ ?_)
 clear hR4 R4
 try simp only [thenK, scopeK]
 refine hN3 _ ?_
 clear hN3 N3
 refine pwp_ret ?_
 simp only [thenK, blockK, scopeK, bodyK]
 refine ⟨_, rfl, endFun (Same.refl _) ?_⟩
 try simp only [upd_at, Nat.reduceEqDiff, if_true, if_false]
 all_goals
  rfl

theorem nm103 : (Tryz.f103.name == "runtime.NumGoroutine") = false := by kernel_rfl
theorem forbidForm_fun (W0 : World) (s : List UInt8) (hs : s.length ≤ 9223372036854775807) :
  PFun Tryz.prog W0 103 [.one (pstr s)] (.sv (.one (pbool (ffB s)))) := by
 intro h
 refine pcalls1 (n := 54) Tryz.func103 rfl nm103 rfl fun hb => ?_
 refine pwp_then fun N1 hN1 => ?_
 refine pwp_reg fun R2 hR2 => ?_
 refine pops_mv (.inr rfl) rfl (by simp only [St.eval, constSlot] <;> rfl) ?_
 refine pops_done (hR2 _ ?_)
 clear hR2 R2
 try simp only [thenK, scopeK]
 refine hN1 _ ?_
 clear hN1 N1
 refine pwp_then fun N3 hN3 => ?_
 refine pwp_then fun N4 hN4 => ?_
 refine pwp_reg fun R5 hR5 => ?_
 refine pops_mv (.inl rfl) rfl (by simp only [St.eval, upd_at, Nat.reduceEqDiff, if_true, if_false] <;> rfl) ?_
 refine pops_to rfl fun M hM => ?_
 simp only [pop, St.eval, constSlot, upd_at, Nat.reduceEqDiff, if_true, if_false, popCall, List.toList_toArray, List.map_cons, List.map_nil, popBuiltin, popLen, lenOfSlot, List.length_map, Tryz.underlying9, eq_self, true_and, and_true, str_list, str_size, str_app, str_cut, str_get]
 refine hM _ _ ?_
 clear hM M
 refine pops_mv (.inl rfl) rfl (by simp only [St.eval, constSlot] <;> rfl) ?_
 refine pops_done (hR5 _ ?_)
 clear hR5 R5
 try simp only [thenK, scopeK]
 refine hN4 _ ?_
 clear hN4 N4
 refine pwp_block ?_
 refine pwp_loop (fun k σ => ∃ (j : Nat), (k = s.length - j) ∧ (j ≤ s.length) ∧ (∀ m < j, ∀ c, s[m]? = some c → ((s.take m).contains c || fbadB c) = false) ∧ (Same h σ.hp) ∧ (σ.env 0 = .sv (.one (pstr s))) ∧ (σ.env 7 = .sv (.one (pint (s.length : Nat)))) ∧ (σ.env 8 = .sv (.one (pint (j : Nat))))) _ ⟨_, .refl _ _, 0, rfl, ?_⟩ ?_
 · exact ⟨Nat.zero_le _, by intro m hm; omega, (Same.refl _), by simp only [upd_at, Nat.reduceEqDiff, if_true, if_false], by simp only [upd_at, Nat.reduceEqDiff, if_true, if_false], by simp only [upd_at, Nat.reduceEqDiff, if_true, if_false]; rfl⟩
 ·rintro k ⟨e, hp0⟩ ⟨j, hk0, hx0_0, hx0_1, sl0, e0_0, e0_7, e0_8⟩
  simp only at sl0 e0_0 e0_7 e0_8
  refine pwp_then fun N6 hN6 => ?_
  refine pwp_reg fun R7 hR7 => ?_
  refine pops_to rfl fun M hM => ?_
  simp only [pop, St.eval, constSlot, upd_at, Nat.reduceEqDiff, if_true, if_false, popBin, binK, intK, strK, eqK, eq_self, true_and, and_true, e0_0, e0_7, e0_8]
  refine hM _ _ ?_
  clear hM M
  refine pops_done (hR7 _ ?_)
  clear hR7 R7
  try simp only [thenK, scopeK]
  refine hN6 _ ?_
  clear hN6 N6
  refine pwp_then fun N8 hN8 => ?_
  refine pwp_cond (by simp only [St.eval, upd_at, Nat.reduceEqDiff, if_true, if_false, e0_0, e0_7, e0_8] <;> rfl) (fun c9 => ?_) (fun c9 => ?_)
  ·skip
   have hj : j < s.length := by have := of_decide_eq_true c9; omega
   obtain ⟨c, hx⟩ : ∃ c, s[j]? = some c := ⟨_, List.getElem?_eq_getElem hj⟩
   have hwj := wrap_succ (i := j) (by omega)
   refine pwp_skip ?_
   try simp only [thenK, scopeK]
   refine hN8 _ ?_
   clear hN8 N8
   refine pwp_then fun N9 hN9 => ?_
   refine pwp_block ?_
   refine pwp_then fun N10 hN10 => ?_
   refine pwp_reg fun R11 hR11 => ?_
   refine pops_mv (.inl rfl) rfl (by simp only [St.eval, upd_at, Nat.reduceEqDiff, if_true, if_false, e0_0, e0_7, e0_8] <;> rfl) ?_
   refine pops_mv (.inr rfl) rfl (by simp only [St.eval, upd_at, Nat.reduceEqDiff, if_true, if_false, e0_0, e0_7, e0_8] <;> rfl) ?_
   refine pops_done (hR11 _ ?_)
   clear hR11 R11
   try simp only [thenK, scopeK]
   refine hN10 _ ?_
   clear hN10 N10
   refine pwp_then fun N12 hN12 => ?_
   refine pwp_reg fun R13 hR13 => ?_
   refine pops_mv (.inl rfl) rfl (by simp only [St.eval, upd_at, Nat.reduceEqDiff, if_true, if_false, e0_0, e0_7, e0_8] <;> rfl) ?_
   refine pops_mv (.inl rfl) rfl (by simp only [St.eval, upd_at, Nat.reduceEqDiff, if_true, if_false, e0_0, e0_7, e0_8] <;> rfl) ?_
   refine pops_to rfl fun M hM => ?_
   simp only [pop, St.eval, constSlot, upd_at, Nat.reduceEqDiff, if_true, if_false, popIndex, partK, Tryz.underlying9, eq_self, true_and, and_true, str_list, str_size, str_app, str_cut, str_get, e0_0, e0_7, e0_8, hx, Int.toNat_natCast]
   refine ⟨Int.natCast_nonneg _, hM _ _ ?_⟩
   clear hM M
   refine pops_mv (.inr rfl) rfl (by simp only [St.eval, upd_at, Nat.reduceEqDiff, if_true, if_false, e0_0, e0_7, e0_8] <;> rfl) ?_
   refine pops_done (hR13 _ ?_)
   clear hR13 R13
   try simp only [thenK, scopeK]
   refine hN12 _ ?_
   clear hN12 N12
   refine pwp_then fun N14 hN14 => ?_
   refine pwp_reg fun R15 hR15 => ?_
   refine pops_mv (.inl rfl) rfl (by simp only [St.eval, upd_at, Nat.reduceEqDiff, if_true, if_false, e0_0, e0_7, e0_8] <;> rfl) ?_
   refine pops_to rfl fun M hM => ?_
   simp only [pop, St.eval, constSlot, upd_at, Nat.reduceEqDiff, if_true, if_false, popBin, binK, intK, strK, eqK, eq_self, true_and, and_true, e0_0, e0_7, e0_8]
   refine hM _ _ ?_
   clear hM M
   refine pops_mv (.inl rfl) rfl (by simp only [St.eval, upd_at, Nat.reduceEqDiff, if_true, if_false, e0_0, e0_7, e0_8] <;> rfl) ?_
   apply pops_and0 3 16 19 [17, 18] (by simp only [upd_at, Nat.reduceEqDiff, if_true, if_false, e0_0, e0_7, e0_8] <;> rfl)
   ·skip
    intro g16_0 J16 hJ16
    simp only [List.take_succ_cons, List.take_zero]
    simp only [anyAt_cons, anyAt_nil] at hJ16
    refine pops_mvg (.inl rfl) rfl rfl (by simp only [upd_at, Nat.reduceEqDiff, if_true, if_false, e0_0, e0_7, e0_8, g16_0]) (by simp only [St.eval, upd_at, Nat.reduceEqDiff, if_true, if_false, e0_0, e0_7, e0_8, g16_0] <;> rfl) ?_
    refine pops_do rfl rfl (by simp only [upd_at, Nat.reduceEqDiff, if_true, if_false, e0_0, e0_7, e0_8, g16_0]) fun M hM => ?_
    simp only [pop, St.eval, constSlot, upd_at, Nat.reduceEqDiff, if_true, if_false, popBin, binK, intK, strK, eqK, eq_self, true_and, and_true, e0_0, e0_7, e0_8, g16_0]
    refine hM _ _ ?_
    clear hM M
    refine pops_to rfl fun M hM => ?_
    simp only [pop, St.eval, constSlot, upd_at, Nat.reduceEqDiff, if_true, if_false, popIf, true_implies, false_implies, Bool.true_eq_false, Bool.false_eq_true, reduceCtorEq, true_and, and_true, e0_0, e0_7, e0_8, g16_0]
    refine hM _ _ ?_
    clear hM M
    exact pops_done (hJ16 _ (wk_same (wk_any ((wk_any (Wk.refl _ _))))))
   ·skip
    intro g16_0 J16 hJ16
    simp only [List.take_succ_cons, List.take_zero]
    simp only [anyAt_cons, anyAt_nil] at hJ16
    refine pops_off (b := false) rfl rfl (by simp only [upd_at, Nat.reduceEqDiff, if_true, if_false, e0_0, e0_7, e0_8, g16_0]) (by decide) ?_
    refine pops_off (b := false) rfl rfl (by simp only [upd_at, Nat.reduceEqDiff, if_true, if_false, e0_0, e0_7, e0_8, g16_0]) (by decide) ?_
    refine pops_to rfl fun M hM => ?_
    simp only [pop, St.eval, constSlot, upd_at, Nat.reduceEqDiff, if_true, if_false, popIf, true_implies, false_implies, Bool.true_eq_false, Bool.false_eq_true, reduceCtorEq, true_and, and_true, e0_0, e0_7, e0_8, g16_0]
    refine hM _ _ ?_
    clear hM M
    exact pops_done (hJ16 _ (wk_same (wk_any ((wk_any (Wk.refl _ _))))))
   simp only [List.drop_succ_cons, List.drop_zero, anyAt_cons, anyAt_nil]
   refine pops_mv (.inl rfl) rfl (by simp only [St.eval, upd_at, Nat.reduceEqDiff, if_true, if_false, e0_0, e0_7, e0_8] <;> rfl) ?_
   apply pops_or0 7 20 27 [21, 22, 23, 24, 25, 26] (by simp only [upd_at, Nat.reduceEqDiff, if_true, if_false, e0_0, e0_7, e0_8] <;> rfl)
   ·skip
    intro g20_0 J17 hJ17
    simp only [List.take_succ_cons, List.take_zero]
    simp only [anyAt_cons, anyAt_nil] at hJ17
    refine pops_mvg (.inl rfl) rfl rfl (by simp only [upd_at, Nat.reduceEqDiff, if_true, if_false, e0_0, e0_7, e0_8, g20_0]) (by simp only [St.eval, upd_at, Nat.reduceEqDiff, if_true, if_false, e0_0, e0_7, e0_8, g20_0] <;> rfl) ?_
    refine pops_do rfl rfl (by simp only [upd_at, Nat.reduceEqDiff, if_true, if_false, e0_0, e0_7, e0_8, g20_0]) fun M hM => ?_
    simp only [pop, St.eval, constSlot, upd_at, Nat.reduceEqDiff, if_true, if_false, popBin, binK, intK, strK, eqK, eq_self, true_and, and_true, e0_0, e0_7, e0_8, g20_0]
    refine hM _ _ ?_
    clear hM M
    refine pops_mvg (.inl rfl) rfl rfl (by simp only [upd_at, Nat.reduceEqDiff, if_true, if_false, e0_0, e0_7, e0_8, g20_0]) (by simp only [St.eval, upd_at, Nat.reduceEqDiff, if_true, if_false, e0_0, e0_7, e0_8, g20_0] <;> rfl) ?_
    apply pops_and0 3 23 26 [24, 25] (by simp only [upd_at, Nat.reduceEqDiff, if_true, if_false, e0_0, e0_7, e0_8, g20_0] <;> rfl)
    ·skip
     intro g23_1 J18 hJ18
     simp only [List.take_succ_cons, List.take_zero]
     simp only [anyAt_cons, anyAt_nil] at hJ18
     refine pops_mvg (.inl rfl) rfl rfl (by simp only [upd_at, Nat.reduceEqDiff, if_true, if_false, e0_0, e0_7, e0_8, g20_0, g23_1]) (by simp only [St.eval, upd_at, Nat.reduceEqDiff, if_true, if_false, e0_0, e0_7, e0_8, g20_0, g23_1] <;> rfl) ?_
     refine pops_do rfl rfl (by simp only [upd_at, Nat.reduceEqDiff, if_true, if_false, e0_0, e0_7, e0_8, g20_0, g23_1]) fun M hM => ?_
     simp only [pop, St.eval, constSlot, upd_at, Nat.reduceEqDiff, if_true, if_false, popBin, binK, intK, strK, eqK, eq_self, true_and, and_true, e0_0, e0_7, e0_8, g20_0, g23_1]
     refine hM _ _ ?_
     clear hM M
     refine pops_do rfl rfl (by simp only [upd_at, Nat.reduceEqDiff, if_true, if_false, e0_0, e0_7, e0_8, g20_0, g23_1]) fun M hM => ?_
     simp only [pop, St.eval, constSlot, upd_at, Nat.reduceEqDiff, if_true, if_false, popIf, true_implies, false_implies, Bool.true_eq_false, Bool.false_eq_true, reduceCtorEq, true_and, and_true, e0_0, e0_7, e0_8, g20_0, g23_1]
     refine hM _ _ ?_
     clear hM M
     exact pops_done (hJ18 _ (wk_same (wk_any ((wk_any (Wk.refl _ _))))))
    ·skip
     intro g23_1 J18 hJ18
     simp only [List.take_succ_cons, List.take_zero]
     simp only [anyAt_cons, anyAt_nil] at hJ18
     refine pops_off (b := false) rfl rfl (by simp only [upd_at, Nat.reduceEqDiff, if_true, if_false, e0_0, e0_7, e0_8, g20_0, g23_1]) (by decide) ?_
     refine pops_off (b := false) rfl rfl (by simp only [upd_at, Nat.reduceEqDiff, if_true, if_false, e0_0, e0_7, e0_8, g20_0, g23_1]) (by decide) ?_
     refine pops_do rfl rfl (by simp only [upd_at, Nat.reduceEqDiff, if_true, if_false, e0_0, e0_7, e0_8, g20_0, g23_1]) fun M hM => ?_
     simp only [pop, St.eval, constSlot, upd_at, Nat.reduceEqDiff, if_true, if_false, popIf, true_implies, false_implies, Bool.true_eq_false, Bool.false_eq_true, reduceCtorEq, true_and, and_true, e0_0, e0_7, e0_8, g20_0, g23_1]
     refine hM _ _ ?_
     clear hM M
     exact pops_done (hJ18 _ (wk_same (wk_any ((wk_any (Wk.refl _ _))))))
    simp only [List.drop_succ_cons, List.drop_zero, anyAt_cons, anyAt_nil]
    refine pops_to rfl fun M hM => ?_
    simp only [pop, St.eval, constSlot, upd_at, Nat.reduceEqDiff, if_true, if_false, popIf, true_implies, false_implies, Bool.true_eq_false, Bool.false_eq_true, reduceCtorEq, true_and, and_true, e0_0, e0_7, e0_8, g20_0]
    refine hM _ _ ?_
    clear hM M
    exact pops_done (hJ17 _ (wk_same (wk_any ((wk_any ((wk_any ((wk_any ((wk_any ((wk_any (Wk.refl _ _))))))))))))))
   ·skip
    intro g20_0 J17 hJ17
    simp only [List.take_succ_cons, List.take_zero]
    simp only [anyAt_cons, anyAt_nil] at hJ17
    refine pops_off (b := true) rfl rfl (by simp only [upd_at, Nat.reduceEqDiff, if_true, if_false, e0_0, e0_7, e0_8, g20_0]) (by decide) ?_
    refine pops_off (b := true) rfl rfl (by simp only [upd_at, Nat.reduceEqDiff, if_true, if_false, e0_0, e0_7, e0_8, g20_0]) (by decide) ?_
    refine pops_off (b := true) rfl rfl (by simp only [upd_at, Nat.reduceEqDiff, if_true, if_false, e0_0, e0_7, e0_8, g20_0]) (by decide) ?_
    refine pops_off0 rfl rfl (by simp only [upd_at, Nat.reduceEqDiff, if_true, if_false, e0_0, e0_7, e0_8, g20_0]) ?_
    refine pops_off0 rfl rfl (by simp only [upd_at, Nat.reduceEqDiff, if_true, if_false, e0_0, e0_7, e0_8, g20_0]) ?_
    refine pops_off (b := true) rfl rfl (by simp only [upd_at, Nat.reduceEqDiff, if_true, if_false, e0_0, e0_7, e0_8, g20_0]) (by decide) ?_
    refine pops_to rfl fun M hM => ?_
    simp only [pop, St.eval, constSlot, upd_at, Nat.reduceEqDiff, if_true, if_false, popIf, true_implies, false_implies, Bool.true_eq_false, Bool.false_eq_true, reduceCtorEq, true_and, and_true, e0_0, e0_7, e0_8, g20_0]
    refine hM _ _ ?_
    clear hM M
    exact pops_done (hJ17 _ (wk_same (wk_any ((wk_any ((wk_any ((wk_any ((wk_any ((wk_any (Wk.refl _ _))))))))))))))
   simp only [List.drop_succ_cons, List.drop_zero, anyAt_cons, anyAt_nil]
   refine pops_mv (.inr rfl) rfl (by simp only [St.eval, upd_at, Nat.reduceEqDiff, if_true, if_false, e0_0, e0_7, e0_8] <;> rfl) ?_
   refine pops_done (hR15 _ ?_)
   clear hR15 R15
   try simp only [thenK, scopeK]
   refine hN14 _ ?_
   clear hN14 N14
   refine pwp_then fun N19 hN19 => ?_
   refine pwp_reg fun R20 hR20 => ?_
   refine pops_mv (.inl rfl) rfl (by simp only [St.eval, upd_at, Nat.reduceEqDiff, if_true, if_false, e0_0, e0_7, e0_8] <;> rfl) ?_
   refine pops_mv (.inl rfl) rfl (by simp only [St.eval, upd_at, Nat.reduceEqDiff, if_true, if_false, e0_0, e0_7, e0_8] <;> rfl) ?_
   refine pops_to rfl fun M hM => ?_
   simp only [pop, St.eval, constSlot, upd_at, Nat.reduceEqDiff, if_true, if_false, popSlice, boundOf, Option.map_none, Option.map_some, Tryz.underlying9, eq_self, true_and, and_true, str_list, str_size, str_app, str_cut, str_get, e0_0, e0_7, e0_8, Int.toNat_natCast, Int.toNat_zero, List.drop_zero]
   refine ⟨by omega, by omega, by omega, hM _ _ ?_⟩
   clear hM M
   refine pops_mv (.inl rfl) rfl (by simp only [St.eval, upd_at, Nat.reduceEqDiff, if_true, if_false, e0_0, e0_7, e0_8] <;> rfl) ?_
   refine pops_to rfl fun M hM => ?_
   simp only [pop, St.eval, constSlot, upd_at, Nat.reduceEqDiff, if_true, if_false, popCall, List.toList_toArray, List.map_cons, List.map_nil, svs, List.mapM_cons, List.mapM_nil, Option.bind_eq_bind, Option.bind_some, Option.pure_def, List.append_nil, List.cons_append, List.nil_append, str_size, e0_0, e0_7, e0_8]
   refine PFun.use (indexByte_fun W0 (s.take j) c) fun h1 s1 => hM _ _ ?_
   replace s1 := Same.trans sl0 s1
   clear hM M
   refine pops_to rfl fun M hM => ?_
   simp only [pop, St.eval, constSlot, upd_at, Nat.reduceEqDiff, if_true, if_false, popBin, binK, intK, strK, eqK, eq_self, true_and, and_true, e0_0, e0_7, e0_8]
   refine hM _ _ ?_
   clear hM M
   refine pops_mv (.inl rfl) rfl (by simp only [St.eval, upd_at, Nat.reduceEqDiff, if_true, if_false, e0_0, e0_7, e0_8] <;> rfl) ?_
   apply pops_or0 3 34 37 [35, 36] (by simp only [upd_at, Nat.reduceEqDiff, if_true, if_false, e0_0, e0_7, e0_8] <;> rfl)
   ·skip
    intro g34_0 J21 hJ21
    simp only [List.take_succ_cons, List.take_zero]
    simp only [anyAt_cons, anyAt_nil] at hJ21
    refine pops_mvg (.inl rfl) rfl rfl (by simp only [upd_at, Nat.reduceEqDiff, if_true, if_false, e0_0, e0_7, e0_8, g34_0]) (by simp only [St.eval, upd_at, Nat.reduceEqDiff, if_true, if_false, e0_0, e0_7, e0_8, g34_0] <;> rfl) ?_
    refine pops_do rfl rfl (by simp only [upd_at, Nat.reduceEqDiff, if_true, if_false, e0_0, e0_7, e0_8, g34_0]) fun M hM => ?_
    simp only [pop, St.eval, constSlot, upd_at, Nat.reduceEqDiff, if_true, if_false, popBin, binK, intK, strK, eqK, Tryz.underlying5, isPtr, eq_self, true_and, and_true, e0_0, e0_7, e0_8, g34_0]
    refine hM _ _ ?_
    clear hM M
    refine pops_to rfl fun M hM => ?_
    simp only [pop, St.eval, constSlot, upd_at, Nat.reduceEqDiff, if_true, if_false, popIf, true_implies, false_implies, Bool.true_eq_false, Bool.false_eq_true, reduceCtorEq, true_and, and_true, e0_0, e0_7, e0_8, g34_0]
    refine hM _ _ ?_
    clear hM M
    exact pops_done (hJ21 _ (wk_same (wk_any ((wk_any (Wk.refl _ _))))))
   ·skip
    intro g34_0 J21 hJ21
    simp only [List.take_succ_cons, List.take_zero]
    simp only [anyAt_cons, anyAt_nil] at hJ21
    refine pops_off (b := true) rfl rfl (by simp only [upd_at, Nat.reduceEqDiff, if_true, if_false, e0_0, e0_7, e0_8, g34_0]) (by decide) ?_
    refine pops_off (b := true) rfl rfl (by simp only [upd_at, Nat.reduceEqDiff, if_true, if_false, e0_0, e0_7, e0_8, g34_0]) (by decide) ?_
    refine pops_to rfl fun M hM => ?_
    simp only [pop, St.eval, constSlot, upd_at, Nat.reduceEqDiff, if_true, if_false, popIf, true_implies, false_implies, Bool.true_eq_false, Bool.false_eq_true, reduceCtorEq, true_and, and_true, e0_0, e0_7, e0_8, g34_0]
    refine hM _ _ ?_
    clear hM M
    exact pops_done (hJ21 _ (wk_same (wk_any ((wk_any (Wk.refl _ _))))))
   simp only [List.drop_succ_cons, List.drop_zero, anyAt_cons, anyAt_nil]
   refine pops_mv (.inl rfl) rfl (by simp only [St.eval, upd_at, Nat.reduceEqDiff, if_true, if_false, e0_0, e0_7, e0_8] <;> rfl) ?_
   apply pops_or0 2 38 40 [39] (by simp only [upd_at, Nat.reduceEqDiff, if_true, if_false, e0_0, e0_7, e0_8] <;> rfl)
   ·skip
    intro g38_0 J22 hJ22
    simp only [List.take_succ_cons, List.take_zero]
    simp only [anyAt_cons, anyAt_nil] at hJ22
    refine pops_mvg (.inl rfl) rfl rfl (by simp only [upd_at, Nat.reduceEqDiff, if_true, if_false, e0_0, e0_7, e0_8, g38_0]) (by simp only [St.eval, upd_at, Nat.reduceEqDiff, if_true, if_false, e0_0, e0_7, e0_8, g38_0] <;> rfl) ?_
    refine pops_to rfl fun M hM => ?_
    simp only [pop, St.eval, constSlot, upd_at, Nat.reduceEqDiff, if_true, if_false, popIf, true_implies, false_implies, Bool.true_eq_false, Bool.false_eq_true, reduceCtorEq, true_and, and_true, e0_0, e0_7, e0_8, g38_0]
    refine hM _ _ ?_
    clear hM M
    exact pops_done (hJ22 _ (wk_same (wk_any (Wk.refl _ _))))
   ·skip
    intro g38_0 J22 hJ22
    simp only [List.take_succ_cons, List.take_zero]
    simp only [anyAt_cons, anyAt_nil] at hJ22
    refine pops_off (b := true) rfl rfl (by simp only [upd_at, Nat.reduceEqDiff, if_true, if_false, e0_0, e0_7, e0_8, g38_0]) (by decide) ?_
    refine pops_to rfl fun M hM => ?_
    simp only [pop, St.eval, constSlot, upd_at, Nat.reduceEqDiff, if_true, if_false, popIf, true_implies, false_implies, Bool.true_eq_false, Bool.false_eq_true, reduceCtorEq, true_and, and_true, e0_0, e0_7, e0_8, g38_0]
    refine hM _ _ ?_
    clear hM M
    exact pops_done (hJ22 _ (wk_same (wk_any (Wk.refl _ _))))
   simp only [List.drop_succ_cons, List.drop_zero, anyAt_cons, anyAt_nil]
   refine pops_mv (.inl rfl) rfl (by simp only [St.eval, upd_at, Nat.reduceEqDiff, if_true, if_false, e0_0, e0_7, e0_8] <;> rfl) ?_
   apply pops_or0 7 41 48 [42, 43, 44, 45, 46, 47] (by simp only [upd_at, Nat.reduceEqDiff, if_true, if_false, e0_0, e0_7, e0_8] <;> rfl)
   ·skip
    intro g41_0 J23 hJ23
    simp only [List.take_succ_cons, List.take_zero]
    simp only [anyAt_cons, anyAt_nil] at hJ23
    refine pops_mvg (.inl rfl) rfl rfl (by simp only [upd_at, Nat.reduceEqDiff, if_true, if_false, e0_0, e0_7, e0_8, g41_0]) (by simp only [St.eval, upd_at, Nat.reduceEqDiff, if_true, if_false, e0_0, e0_7, e0_8, g41_0] <;> rfl) ?_
    refine pops_do rfl rfl (by simp only [upd_at, Nat.reduceEqDiff, if_true, if_false, e0_0, e0_7, e0_8, g41_0]) fun M hM => ?_
    simp only [pop, St.eval, constSlot, upd_at, Nat.reduceEqDiff, if_true, if_false, popBin, binK, intK, strK, eqK, eq_self, true_and, and_true, e0_0, e0_7, e0_8, g41_0]
    refine hM _ _ ?_
    clear hM M
    refine pops_mvg (.inl rfl) rfl rfl (by simp only [upd_at, Nat.reduceEqDiff, if_true, if_false, e0_0, e0_7, e0_8, g41_0]) (by simp only [St.eval, upd_at, Nat.reduceEqDiff, if_true, if_false, e0_0, e0_7, e0_8, g41_0] <;> rfl) ?_
    apply pops_and0 3 44 47 [45, 46] (by simp only [upd_at, Nat.reduceEqDiff, if_true, if_false, e0_0, e0_7, e0_8, g41_0] <;> rfl)
    ·skip
     intro g44_1 J24 hJ24
     simp only [List.take_succ_cons, List.take_zero]
     simp only [anyAt_cons, anyAt_nil] at hJ24
     refine pops_mvg (.inl rfl) rfl rfl (by simp only [upd_at, Nat.reduceEqDiff, if_true, if_false, e0_0, e0_7, e0_8, g41_0, g44_1]) (by simp only [St.eval, upd_at, Nat.reduceEqDiff, if_true, if_false, e0_0, e0_7, e0_8, g41_0, g44_1] <;> rfl) ?_
     refine pops_do rfl rfl (by simp only [upd_at, Nat.reduceEqDiff, if_true, if_false, e0_0, e0_7, e0_8, g41_0, g44_1]) fun M hM => ?_
     simp only [pop, St.eval, constSlot, upd_at, Nat.reduceEqDiff, if_true, if_false, popBin, binK, intK, strK, eqK, eq_self, true_and, and_true, e0_0, e0_7, e0_8, g41_0, g44_1]
     refine hM _ _ ?_
     clear hM M
     refine pops_do rfl rfl (by simp only [upd_at, Nat.reduceEqDiff, if_true, if_false, e0_0, e0_7, e0_8, g41_0, g44_1]) fun M hM => ?_
     simp only [pop, St.eval, constSlot, upd_at, Nat.reduceEqDiff, if_true, if_false, popIf, true_implies, false_implies, Bool.true_eq_false, Bool.false_eq_true, reduceCtorEq, true_and, and_true, e0_0, e0_7, e0_8, g41_0, g44_1]
     refine hM _ _ ?_
     clear hM M
     exact pops_done (hJ24 _ (wk_same (wk_any ((wk_any (Wk.refl _ _))))))
    ·skip
     intro g44_1 J24 hJ24
     simp only [List.take_succ_cons, List.take_zero]
     simp only [anyAt_cons, anyAt_nil] at hJ24
     refine pops_off (b := false) rfl rfl (by simp only [upd_at, Nat.reduceEqDiff, if_true, if_false, e0_0, e0_7, e0_8, g41_0, g44_1]) (by decide) ?_
     refine pops_off (b := false) rfl rfl (by simp only [upd_at, Nat.reduceEqDiff, if_true, if_false, e0_0, e0_7, e0_8, g41_0, g44_1]) (by decide) ?_
     refine pops_do rfl rfl (by simp only [upd_at, Nat.reduceEqDiff, if_true, if_false, e0_0, e0_7, e0_8, g41_0, g44_1]) fun M hM => ?_
     simp only [pop, St.eval, constSlot, upd_at, Nat.reduceEqDiff, if_true, if_false, popIf, true_implies, false_implies, Bool.true_eq_false, Bool.false_eq_true, reduceCtorEq, true_and, and_true, e0_0, e0_7, e0_8, g41_0, g44_1]
     refine hM _ _ ?_
     clear hM M
     exact pops_done (hJ24 _ (wk_same (wk_any ((wk_any (Wk.refl _ _))))))
    simp only [List.drop_succ_cons, List.drop_zero, anyAt_cons, anyAt_nil]
    refine pops_to rfl fun M hM => ?_
    simp only [pop, St.eval, constSlot, upd_at, Nat.reduceEqDiff, if_true, if_false, popIf, true_implies, false_implies, Bool.true_eq_false, Bool.false_eq_true, reduceCtorEq, true_and, and_true, e0_0, e0_7, e0_8, g41_0]
    refine hM _ _ ?_
    clear hM M
    exact pops_done (hJ23 _ (wk_same (wk_any ((wk_any ((wk_any ((wk_any ((wk_any ((wk_any (Wk.refl _ _))))))))))))))
   ·skip
    intro g41_0 J23 hJ23
    simp only [List.take_succ_cons, List.take_zero]
    simp only [anyAt_cons, anyAt_nil] at hJ23
    refine pops_off (b := true) rfl rfl (by simp only [upd_at, Nat.reduceEqDiff, if_true, if_false, e0_0, e0_7, e0_8, g41_0]) (by decide) ?_
    refine pops_off (b := true) rfl rfl (by simp only [upd_at, Nat.reduceEqDiff, if_true, if_false, e0_0, e0_7, e0_8, g41_0]) (by decide) ?_
    refine pops_off (b := true) rfl rfl (by simp only [upd_at, Nat.reduceEqDiff, if_true, if_false, e0_0, e0_7, e0_8, g41_0]) (by decide) ?_
    refine pops_off0 rfl rfl (by simp only [upd_at, Nat.reduceEqDiff, if_true, if_false, e0_0, e0_7, e0_8, g41_0]) ?_
    refine pops_off0 rfl rfl (by simp only [upd_at, Nat.reduceEqDiff, if_true, if_false, e0_0, e0_7, e0_8, g41_0]) ?_
    refine pops_off (b := true) rfl rfl (by simp only [upd_at, Nat.reduceEqDiff, if_true, if_false, e0_0, e0_7, e0_8, g41_0]) (by decide) ?_
    refine pops_to rfl fun M hM => ?_
    simp only [pop, St.eval, constSlot, upd_at, Nat.reduceEqDiff, if_true, if_false, popIf, true_implies, false_implies, Bool.true_eq_false, Bool.false_eq_true, reduceCtorEq, true_and, and_true, e0_0, e0_7, e0_8, g41_0]
    refine hM _ _ ?_
    clear hM M
    exact pops_done (hJ23 _ (wk_same (wk_any ((wk_any ((wk_any ((wk_any ((wk_any ((wk_any (Wk.refl _ _))))))))))))))
   simp only [List.drop_succ_cons, List.drop_zero, anyAt_cons, anyAt_nil]
   refine pops_mv (.inl rfl) rfl (by simp only [St.eval, upd_at, Nat.reduceEqDiff, if_true, if_false, e0_0, e0_7, e0_8] <;> rfl) ?_
   apply pops_or0 3 49 52 [50, 51] (by simp only [upd_at, Nat.reduceEqDiff, if_true, if_false, e0_0, e0_7, e0_8] <;> rfl)
   ·skip
    intro g49_0 J25 hJ25
    simp only [List.take_succ_cons, List.take_zero]
    simp only [anyAt_cons, anyAt_nil] at hJ25
    refine pops_mvg (.inl rfl) rfl rfl (by simp only [upd_at, Nat.reduceEqDiff, if_true, if_false, e0_0, e0_7, e0_8, g49_0]) (by simp only [St.eval, upd_at, Nat.reduceEqDiff, if_true, if_false, e0_0, e0_7, e0_8, g49_0] <;> rfl) ?_
    refine pops_do rfl rfl (by simp only [upd_at, Nat.reduceEqDiff, if_true, if_false, e0_0, e0_7, e0_8, g49_0]) fun M hM => ?_
    simp only [pop, St.eval, constSlot, upd_at, Nat.reduceEqDiff, if_true, if_false, popBin, binK, intK, strK, eqK, eq_self, true_and, and_true, e0_0, e0_7, e0_8, g49_0]
    refine hM _ _ ?_
    clear hM M
    refine pops_to rfl fun M hM => ?_
    simp only [pop, St.eval, constSlot, upd_at, Nat.reduceEqDiff, if_true, if_false, popIf, true_implies, false_implies, Bool.true_eq_false, Bool.false_eq_true, reduceCtorEq, true_and, and_true, e0_0, e0_7, e0_8, g49_0]
    refine hM _ _ ?_
    clear hM M
    exact pops_done (hJ25 _ (wk_same (wk_any ((wk_any (Wk.refl _ _))))))
   ·skip
    intro g49_0 J25 hJ25
    simp only [List.take_succ_cons, List.take_zero]
    simp only [anyAt_cons, anyAt_nil] at hJ25
    refine pops_off (b := true) rfl rfl (by simp only [upd_at, Nat.reduceEqDiff, if_true, if_false, e0_0, e0_7, e0_8, g49_0]) (by decide) ?_
    refine pops_off (b := true) rfl rfl (by simp only [upd_at, Nat.reduceEqDiff, if_true, if_false, e0_0, e0_7, e0_8, g49_0]) (by decide) ?_
    refine pops_to rfl fun M hM => ?_
    simp only [pop, St.eval, constSlot, upd_at, Nat.reduceEqDiff, if_true, if_false, popIf, true_implies, false_implies, Bool.true_eq_false, Bool.false_eq_true, reduceCtorEq, true_and, and_true, e0_0, e0_7, e0_8, g49_0]
    refine hM _ _ ?_
    clear hM M
    exact pops_done (hJ25 _ (wk_same (wk_any ((wk_any (Wk.refl _ _))))))
   simp only [List.drop_succ_cons, List.drop_zero, anyAt_cons, anyAt_nil]
   refine pops_done (hR20 _ ?_)
   clear hR20 R20
   try simp only [thenK, scopeK]
   refine hN19 _ ?_
   clear hN19 N19
   refine pwp_cond (by simp only [St.eval, upd_at, Nat.reduceEqDiff, if_true, if_false, e0_0, e0_7, e0_8] <;> rfl) (fun c52 => ?_) (fun c52 => ?_)
   ·skip
    rw [ix_dec, u8_47, fb_prog] at c52
    have he := ffB_bad hx c52
    refine pwp_then fun N26 hN26 => ?_
    refine pwp_reg fun R27 hR27 => ?_
    refine pops_mv (.inr rfl) rfl (by simp only [St.eval, constSlot] <;> rfl) ?_
    refine pops_done (hR27 _ ?_)
    clear hR27 R27
    try simp only [thenK, scopeK]
    refine hN26 _ ?_
    clear hN26 N26
    refine pwp_ret ?_
    simp only [thenK, blockK, scopeK, bodyK]
    clear hN9 N9 hN3 N3
    refine ⟨_, rfl, endFun s1 ?_⟩
    try simp only [upd_at, Nat.reduceEqDiff, if_true, if_false, e0_0, e0_7, e0_8]
    all_goals
     rw [he]
   ·skip
    rw [ix_dec, u8_47, fb_prog] at c52
    refine pwp_skip ?_
    try simp only [blockK, thenK, scopeK]
    try simp only [thenK, scopeK]
    refine hN9 _ ?_
    clear hN9 N9
    refine pwp_reg fun R28 hR28 => ?_
    refine pops_to rfl fun M hM => ?_
    simp only [pop, St.eval, constSlot, upd_at, Nat.reduceEqDiff, if_true, if_false, popBin, binK, intK, strK, eqK, eq_self, true_and, and_true, e0_0, e0_7, e0_8]
    refine hM _ _ ?_
    clear hM M
    refine pops_mv (.inl rfl) rfl (by simp only [St.eval, upd_at, Nat.reduceEqDiff, if_true, if_false, e0_0, e0_7, e0_8] <;> rfl) ?_
    refine pops_done (hR28 _ ?_)
    clear hR28 R28
    try simp only [thenK, scopeK]
    exact ⟨_, by omega, _, .refl _ _, j + 1, rfl, by omega, pre_step hx hx0_1 c52, s1, by simp only [upd_at, Nat.reduceEqDiff, if_true, if_false, e0_0, e0_7, e0_8], by simp only [upd_at, Nat.reduceEqDiff, if_true, if_false, e0_0, e0_7, e0_8], by simp only [upd_at, Nat.reduceEqDiff, if_true, if_false, e0_8]; rw [wrap_succ (by omega)]⟩
  ·skip
   have hj := of_decide_eq_false c9
   refine pwp_exit ?_
   try simp only [thenK, blockK, scopeK, if_true, Nat.reduceEqDiff, if_false]
   clear hN8 N8
   try simp only [blockK, scopeK, if_true, Nat.reduceEqDiff, if_false, thenK]
   try simp only [thenK, scopeK]
   refine hN3 _ ?_
   clear hN3 N3
   refine pwp_then fun N29 hN29 => ?_
   refine pwp_reg fun R30 hR30 => ?_
   refine pops_mv (.inr rfl) rfl (by simp only [St.eval, constSlot] <;> rfl) ?_
   refine pops_done (hR30 _ ?_)
   clear hR30 R30
   try simp only [thenK, scopeK]
   refine hN29 _ ?_
   clear hN29 N29
   refine pwp_ret ?_
   simp only [thenK, blockK, scopeK, bodyK]
   refine ⟨_, rfl, endFun sl0 ?_⟩
   try simp only [upd_at, Nat.reduceEqDiff, if_true, if_false, e0_0, e0_7, e0_8]
   all_goals
    rw [ffB_good fun m hm c hc => hx0_1 m (by omega) c hc]

theorem nm61 : (Tryz.f61.name == "runtime.NumGoroutine") = false := by kernel_rfl
set_option maxHeartbeats 2000000 in
theorem checkFeat_fun (W0 : World) (x : Feat) (hf : x.forbid.length ≤ 9223372036854775807) :
  PFun Tryz.prog W0 61 [.agg (featPV x)] (.sv (.one (pint (featE x)))) := by
 intro h
 refine pcalls1 (n := 102) Tryz.func61 rfl nm61 rfl fun hb => ?_
 refine pwp_then fun N1 hN1 => ?_
 refine pwp_reg fun R2 hR2 => ?_
 refine pops_to rfl fun M hM => ?_
 simp only [pop, St.eval, constSlot, upd_at, Nat.reduceEqDiff, if_true, if_false, popBox, popBoxRo, slotCells, featPV]
 refine .inr ⟨Nat.succ_pos _, hM _ _ ?_⟩
 clear hM M
 refine pops_mv (.inr rfl) rfl (by simp only [St.eval, constSlot] <;> rfl) ?_
 refine pops_done (hR2 _ ?_)
 clear hR2 R2
 try simp only [thenK, scopeK]
 refine hN1 _ ?_
 clear hN1 N1
 refine pwp_then fun N3 hN3 => ?_
 refine pwp_reg fun R4 hR4 => ?_
 refine pops_to rfl fun M hM => ?_
 simp only [pop, St.eval, constSlot, upd_at, Nat.reduceEqDiff, if_true, if_false, onesOf, List.toList_toArray, List.map_cons, List.map_nil, List.mapM_cons, List.mapM_nil, Option.bind_eq_bind, Option.bind_some, Option.pure_def, eq_self, true_and, featPV]
 refine hM _ _ ?_
 clear hM M
 refine pops_mv (.inr rfl) rfl (by simp only [St.eval, upd_at, Nat.reduceEqDiff, if_true, if_false, featPV] <;> rfl) ?_
 refine pops_done (hR4 _ ?_)
 clear hR4 R4
 try simp only [thenK, scopeK]
 refine hN3 _ ?_
 clear hN3 N3
 refine pwp_then fun N5 hN5 => ?_
 refine pwp_reg fun R6 hR6 => ?_
 refine pops_mv (.inr rfl) rfl (by simp only [St.eval, constSlot] <;> rfl) ?_
 refine pops_done (hR6 _ ?_)
 clear hR6 R6
 try simp only [thenK, scopeK]
 refine hN5 _ ?_
 clear hN5 N5
 refine pwp_then fun N7 hN7 => ?_
 refine pwp_then fun N8 hN8 => ?_
 refine pwp_reg fun R9 hR9 => ?_
 refine pops_to rfl fun M hM => ?_
 simp only [pop, St.eval, constSlot, upd_at, Nat.reduceEqDiff, if_true, if_false, popFieldAddr, fieldOf, List.drop_succ_cons, List.drop_zero, List.getElem?_toArray, List.getElem?_cons_zero, List.getElem?_cons_succ, Tryz.underlying23, sz3, featPV]
 refine ⟨⟨_, rfl⟩, hM _ _ ?_⟩
 clear hM M
 refine pops_to rfl fun M hM => ?_
 simp only [pop, St.eval, constSlot, upd_at, Nat.reduceEqDiff, if_true, if_false, popLoad, loadK, isAggD, List.drop_zero, List.getElem?_toArray, List.getElem?_cons_zero, List.getElem?_cons_succ, Bool.false_eq_true, Tryz.underlying3, sz3, eq_self, true_and, and_true, featPV]
 refine hM _ _ ?_
 clear hM M
 refine pops_to rfl fun M hM => ?_
 simp only [pop, St.eval, constSlot, upd_at, Nat.reduceEqDiff, if_true, if_false, popBin, binK, intK, strK, eqK, eq_self, true_and, and_true, featPV]
 refine hM _ _ ?_
 clear hM M
 refine pops_mv (.inl rfl) rfl (by simp only [St.eval, upd_at, Nat.reduceEqDiff, if_true, if_false, featPV] <;> rfl) ?_
 apply pops_or0 4 12 16 [13, 14, 15] (by simp only [upd_at, Nat.reduceEqDiff, if_true, if_false, featPV] <;> rfl)
 ·skip
  intro g12_0 J10 hJ10
  simp only [List.take_succ_cons, List.take_zero]
  simp only [anyAt_cons, anyAt_nil] at hJ10
  refine pops_do rfl rfl (by simp only [upd_at, Nat.reduceEqDiff, if_true, if_false, featPV, g12_0]) fun M hM => ?_
  simp only [pop, St.eval, constSlot, upd_at, Nat.reduceEqDiff, if_true, if_false, popFieldAddr, fieldOf, List.drop_succ_cons, List.drop_zero, List.getElem?_toArray, List.getElem?_cons_zero, List.getElem?_cons_succ, Tryz.underlying23, sz3, featPV, g12_0]
  refine ⟨⟨_, rfl⟩, hM _ _ ?_⟩
  clear hM M
  refine pops_do rfl rfl (by simp only [upd_at, Nat.reduceEqDiff, if_true, if_false, featPV, g12_0]) fun M hM => ?_
  simp only [pop, St.eval, constSlot, upd_at, Nat.reduceEqDiff, if_true, if_false, popLoad, loadK, isAggD, List.drop_zero, List.getElem?_toArray, List.getElem?_cons_zero, List.getElem?_cons_succ, Bool.false_eq_true, Tryz.underlying3, sz3, eq_self, true_and, and_true, featPV, g12_0]
  refine hM _ _ ?_
  clear hM M
  refine pops_do rfl rfl (by simp only [upd_at, Nat.reduceEqDiff, if_true, if_false, featPV, g12_0]) fun M hM => ?_
  simp only [pop, St.eval, constSlot, upd_at, Nat.reduceEqDiff, if_true, if_false, popBin, binK, intK, strK, eqK, eq_self, true_and, and_true, featPV, g12_0]
  refine hM _ _ ?_
  clear hM M
  refine pops_to rfl fun M hM => ?_
  simp only [pop, St.eval, constSlot, upd_at, Nat.reduceEqDiff, if_true, if_false, popIf, true_implies, false_implies, Bool.true_eq_false, Bool.false_eq_true, reduceCtorEq, true_and, and_true, featPV, g12_0]
  refine hM _ _ ?_
  clear hM M
  exact pops_done (hJ10 _ (wk_same (wk_any ((wk_any ((wk_any (Wk.refl _ _))))))))
 ·skip
  intro g12_0 J10 hJ10
  simp only [List.take_succ_cons, List.take_zero]
  simp only [anyAt_cons, anyAt_nil] at hJ10
  refine pops_off (b := true) rfl rfl (by simp only [upd_at, Nat.reduceEqDiff, if_true, if_false, featPV, g12_0]) (by decide) ?_
  refine pops_off (b := true) rfl rfl (by simp only [upd_at, Nat.reduceEqDiff, if_true, if_false, featPV, g12_0]) (by decide) ?_
  refine pops_off (b := true) rfl rfl (by simp only [upd_at, Nat.reduceEqDiff, if_true, if_false, featPV, g12_0]) (by decide) ?_
  refine pops_to rfl fun M hM => ?_
  simp only [pop, St.eval, constSlot, upd_at, Nat.reduceEqDiff, if_true, if_false, popIf, true_implies, false_implies, Bool.true_eq_false, Bool.false_eq_true, reduceCtorEq, true_and, and_true, featPV, g12_0]
  refine hM _ _ ?_
  clear hM M
  exact pops_done (hJ10 _ (wk_same (wk_any ((wk_any ((wk_any (Wk.refl _ _))))))))
 simp only [List.drop_succ_cons, List.drop_zero, anyAt_cons, anyAt_nil]
 refine pops_mv (.inl rfl) rfl (by simp only [St.eval, upd_at, Nat.reduceEqDiff, if_true, if_false, featPV] <;> rfl) ?_
 apply pops_or 8 17 25 [18, 19, 20, 21, 22, 23, 24] (by simp only [upd_at, Nat.reduceEqDiff, if_true, if_false, featPV] <;> rfl)
 ·skip
  intro g17_0 J11 hJ11
  simp only [List.take_succ_cons, List.take_zero]
  simp only [anyAt_cons, anyAt_nil] at hJ11
  refine pops_mvg (.inl rfl) rfl rfl (by simp only [upd_at, Nat.reduceEqDiff, if_true, if_false, featPV, g17_0]) (by simp only [St.eval, upd_at, Nat.reduceEqDiff, if_true, if_false, featPV, g17_0] <;> rfl) ?_
  refine pops_do rfl rfl (by simp only [upd_at, Nat.reduceEqDiff, if_true, if_false, featPV, g17_0]) fun M hM => ?_
  simp only [pop, St.eval, constSlot, upd_at, Nat.reduceEqDiff, if_true, if_false, popCall, List.toList_toArray, List.map_cons, List.map_nil, svs, List.mapM_cons, List.mapM_nil, Option.bind_eq_bind, Option.bind_some, Option.pure_def, List.append_nil, List.cons_append, List.nil_append, str_size, featPV, g17_0]
  refine PFun.use (has_fun W0 x 8) fun h1 s1 => hM _ _ ?_
  replace s1 := Same.trans (Same.refl _) s1
  clear hM M
  refine pops_mvg (.inl rfl) rfl rfl (by simp only [upd_at, Nat.reduceEqDiff, if_true, if_false, featPV, g17_0]) (by simp only [St.eval, upd_at, Nat.reduceEqDiff, if_true, if_false, featPV, g17_0] <;> rfl) ?_
  apply pops_and 4 20 24 [21, 22, 23] (by simp only [upd_at, Nat.reduceEqDiff, if_true, if_false, featPV, g17_0] <;> rfl)
  ·skip
   intro g20_1 J12 hJ12
   simp only [List.take_succ_cons, List.take_zero]
   simp only [anyAt_cons, anyAt_nil] at hJ12
   refine pops_mvg (.inl rfl) rfl rfl (by simp only [upd_at, Nat.reduceEqDiff, if_true, if_false, featPV, g17_0, g20_1]) (by simp only [St.eval, upd_at, Nat.reduceEqDiff, if_true, if_false, featPV, g17_0, g20_1] <;> rfl) ?_
   refine pops_do rfl rfl (by simp only [upd_at, Nat.reduceEqDiff, if_true, if_false, featPV, g17_0, g20_1]) fun M hM => ?_
   simp only [pop, St.eval, constSlot, upd_at, Nat.reduceEqDiff, if_true, if_false, popCall, List.toList_toArray, List.map_cons, List.map_nil, svs, List.mapM_cons, List.mapM_nil, Option.bind_eq_bind, Option.bind_some, Option.pure_def, List.append_nil, List.cons_append, List.nil_append, str_size, featPV, g17_0, g20_1]
   refine PFun.use (has_fun W0 x 4) fun h2 s2 => hM _ _ ?_
   replace s2 := Same.trans (Same.refl _) s2
   clear hM M
   refine pops_do rfl rfl (by simp only [upd_at, Nat.reduceEqDiff, if_true, if_false, featPV, g17_0, g20_1]) fun M hM => ?_
   simp only [pop, St.eval, constSlot, upd_at, Nat.reduceEqDiff, if_true, if_false, unK, featPV, g17_0, g20_1]
   refine hM _ _ ?_
   clear hM M
   refine pops_do rfl rfl (by simp only [upd_at, Nat.reduceEqDiff, if_true, if_false, featPV, g17_0, g20_1]) fun M hM => ?_
   simp only [pop, St.eval, constSlot, upd_at, Nat.reduceEqDiff, if_true, if_false, popIf, true_implies, false_implies, Bool.true_eq_false, Bool.false_eq_true, reduceCtorEq, true_and, and_true, featPV, g17_0, g20_1]
   refine hM _ _ ?_
   clear hM M
   exact pops_done (hJ12 _ _ s2 (wk_same (wk_any ((wk_any ((wk_any (Wk.refl _ _))))))))
  ·skip
   intro g20_1 J12 hJ12
   simp only [List.take_succ_cons, List.take_zero]
   simp only [anyAt_cons, anyAt_nil] at hJ12
   refine pops_off (b := false) rfl rfl (by simp only [upd_at, Nat.reduceEqDiff, if_true, if_false, featPV, g17_0, g20_1]) (by decide) ?_
   refine pops_off (b := false) rfl rfl (by simp only [upd_at, Nat.reduceEqDiff, if_true, if_false, featPV, g17_0, g20_1]) (by decide) ?_
   refine pops_off (b := false) rfl rfl (by simp only [upd_at, Nat.reduceEqDiff, if_true, if_false, featPV, g17_0, g20_1]) (by decide) ?_
   refine pops_do rfl rfl (by simp only [upd_at, Nat.reduceEqDiff, if_true, if_false, featPV, g17_0, g20_1]) fun M hM => ?_
   simp only [pop, St.eval, constSlot, upd_at, Nat.reduceEqDiff, if_true, if_false, popIf, true_implies, false_implies, Bool.true_eq_false, Bool.false_eq_true, reduceCtorEq, true_and, and_true, featPV, g17_0, g20_1]
   refine hM _ _ ?_
   clear hM M
   exact pops_done (hJ12 _ _ (Same.refl _) (wk_same (wk_any ((wk_any ((wk_any (Wk.refl _ _))))))))
  simp only [List.drop_succ_cons, List.drop_zero, anyAt_cons, anyAt_nil]
  intro hj12 sj12
  replace sj12 := Same.trans s1 sj12
  refine pops_to rfl fun M hM => ?_
  simp only [pop, St.eval, constSlot, upd_at, Nat.reduceEqDiff, if_true, if_false, popIf, true_implies, false_implies, Bool.true_eq_false, Bool.false_eq_true, reduceCtorEq, true_and, and_true, featPV, g17_0]
  refine hM _ _ ?_
  clear hM M
  exact pops_done (hJ11 _ _ sj12 (wk_same (wk_any ((wk_any ((wk_any ((wk_any ((wk_any ((wk_any ((wk_any (Wk.refl _ _))))))))))))))))
 ·skip
  intro g17_0 J11 hJ11
  simp only [List.take_succ_cons, List.take_zero]
  simp only [anyAt_cons, anyAt_nil] at hJ11
  refine pops_off (b := true) rfl rfl (by simp only [upd_at, Nat.reduceEqDiff, if_true, if_false, featPV, g17_0]) (by decide) ?_
  refine pops_off (b := true) rfl rfl (by simp only [upd_at, Nat.reduceEqDiff, if_true, if_false, featPV, g17_0]) (by decide) ?_
  refine pops_off (b := true) rfl rfl (by simp only [upd_at, Nat.reduceEqDiff, if_true, if_false, featPV, g17_0]) (by decide) ?_
  refine pops_off0 rfl rfl (by simp only [upd_at, Nat.reduceEqDiff, if_true, if_false, featPV, g17_0]) ?_
  refine pops_off0 rfl rfl (by simp only [upd_at, Nat.reduceEqDiff, if_true, if_false, featPV, g17_0]) ?_
  refine pops_off0 rfl rfl (by simp only [upd_at, Nat.reduceEqDiff, if_true, if_false, featPV, g17_0]) ?_
  refine pops_off (b := true) rfl rfl (by simp only [upd_at, Nat.reduceEqDiff, if_true, if_false, featPV, g17_0]) (by decide) ?_
  refine pops_to rfl fun M hM => ?_
  simp only [pop, St.eval, constSlot, upd_at, Nat.reduceEqDiff, if_true, if_false, popIf, true_implies, false_implies, Bool.true_eq_false, Bool.false_eq_true, reduceCtorEq, true_and, and_true, featPV, g17_0]
  refine hM _ _ ?_
  clear hM M
  exact pops_done (hJ11 _ _ (Same.refl _) (wk_same (wk_any ((wk_any ((wk_any ((wk_any ((wk_any ((wk_any ((wk_any (Wk.refl _ _))))))))))))))))
 simp only [List.drop_succ_cons, List.drop_zero, anyAt_cons, anyAt_nil]
 intro hj11 sj11
 refine pops_mv (.inl rfl) rfl (by simp only [St.eval, upd_at, Nat.reduceEqDiff, if_true, if_false, featPV] <;> rfl) ?_
 apply pops_or 8 26 34 [27, 28, 29, 30, 31, 32, 33] (by simp only [upd_at, Nat.reduceEqDiff, if_true, if_false, featPV] <;> rfl)
 ·skip
  intro g26_0 J13 hJ13
  simp only [List.take_succ_cons, List.take_zero]
  simp only [anyAt_cons, anyAt_nil] at hJ13
  refine pops_mvg (.inl rfl) rfl rfl (by simp only [upd_at, Nat.reduceEqDiff, if_true, if_false, featPV, g26_0]) (by simp only [St.eval, upd_at, Nat.reduceEqDiff, if_true, if_false, featPV, g26_0] <;> rfl) ?_
  refine pops_do rfl rfl (by simp only [upd_at, Nat.reduceEqDiff, if_true, if_false, featPV, g26_0]) fun M hM => ?_
  simp only [pop, St.eval, constSlot, upd_at, Nat.reduceEqDiff, if_true, if_false, popCall, List.toList_toArray, List.map_cons, List.map_nil, svs, List.mapM_cons, List.mapM_nil, Option.bind_eq_bind, Option.bind_some, Option.pure_def, List.append_nil, List.cons_append, List.nil_append, str_size, featPV, g26_0]
  refine PFun.use (has_fun W0 x 2048) fun h3 s3 => hM _ _ ?_
  replace s3 := Same.trans (Same.refl _) s3
  clear hM M
  refine pops_mvg (.inl rfl) rfl rfl (by simp only [upd_at, Nat.reduceEqDiff, if_true, if_false, featPV, g26_0]) (by simp only [St.eval, upd_at, Nat.reduceEqDiff, if_true, if_false, featPV, g26_0] <;> rfl) ?_
  apply pops_and 4 29 33 [30, 31, 32] (by simp only [upd_at, Nat.reduceEqDiff, if_true, if_false, featPV, g26_0] <;> rfl)
  ·skip
   intro g29_1 J14 hJ14
   simp only [List.take_succ_cons, List.take_zero]
   simp only [anyAt_cons, anyAt_nil] at hJ14
   refine pops_mvg (.inl rfl) rfl rfl (by simp only [upd_at, Nat.reduceEqDiff, if_true, if_false, featPV, g26_0, g29_1]) (by simp only [St.eval, upd_at, Nat.reduceEqDiff, if_true, if_false, featPV, g26_0, g29_1] <;> rfl) ?_
   refine pops_do rfl rfl (by simp only [upd_at, Nat.reduceEqDiff, if_true, if_false, featPV, g26_0, g29_1]) fun M hM => ?_
   simp only [pop, St.eval, constSlot, upd_at, Nat.reduceEqDiff, if_true, if_false, popCall, List.toList_toArray, List.map_cons, List.map_nil, svs, List.mapM_cons, List.mapM_nil, Option.bind_eq_bind, Option.bind_some, Option.pure_def, List.append_nil, List.cons_append, List.nil_append, str_size, featPV, g26_0, g29_1]
   refine PFun.use (has_fun W0 x 64) fun h4 s4 => hM _ _ ?_
   replace s4 := Same.trans (Same.refl _) s4
   clear hM M
   refine pops_do rfl rfl (by simp only [upd_at, Nat.reduceEqDiff, if_true, if_false, featPV, g26_0, g29_1]) fun M hM => ?_
   simp only [pop, St.eval, constSlot, upd_at, Nat.reduceEqDiff, if_true, if_false, unK, featPV, g26_0, g29_1]
   refine hM _ _ ?_
   clear hM M
   refine pops_do rfl rfl (by simp only [upd_at, Nat.reduceEqDiff, if_true, if_false, featPV, g26_0, g29_1]) fun M hM => ?_
   simp only [pop, St.eval, constSlot, upd_at, Nat.reduceEqDiff, if_true, if_false, popIf, true_implies, false_implies, Bool.true_eq_false, Bool.false_eq_true, reduceCtorEq, true_and, and_true, featPV, g26_0, g29_1]
   refine hM _ _ ?_
   clear hM M
   exact pops_done (hJ14 _ _ s4 (wk_same (wk_any ((wk_any ((wk_any (Wk.refl _ _))))))))
  ·skip
   intro g29_1 J14 hJ14
   simp only [List.take_succ_cons, List.take_zero]
   simp only [anyAt_cons, anyAt_nil] at hJ14
   refine pops_off (b := false) rfl rfl (by simp only [upd_at, Nat.reduceEqDiff, if_true, if_false, featPV, g26_0, g29_1]) (by decide) ?_
   refine pops_off (b := false) rfl rfl (by simp only [upd_at, Nat.reduceEqDiff, if_true, if_false, featPV, g26_0, g29_1]) (by decide) ?_
   refine pops_off (b := false) rfl rfl (by simp only [upd_at, Nat.reduceEqDiff, if_true, if_false, featPV, g26_0, g29_1]) (by decide) ?_
   refine pops_do rfl rfl (by simp only [upd_at, Nat.reduceEqDiff, if_true, if_false, featPV, g26_0, g29_1]) fun M hM => ?_
   simp only [pop, St.eval, constSlot, upd_at, Nat.reduceEqDiff, if_true, if_false, popIf, true_implies, false_implies, Bool.true_eq_false, Bool.false_eq_true, reduceCtorEq, true_and, and_true, featPV, g26_0, g29_1]
   refine hM _ _ ?_
   clear hM M
   exact pops_done (hJ14 _ _ (Same.refl _) (wk_same (wk_any ((wk_any ((wk_any (Wk.refl _ _))))))))
  simp only [List.drop_succ_cons, List.drop_zero, anyAt_cons, anyAt_nil]
  intro hj14 sj14
  replace sj14 := Same.trans s3 sj14
  refine pops_to rfl fun M hM => ?_
  simp only [pop, St.eval, constSlot, upd_at, Nat.reduceEqDiff, if_true, if_false, popIf, true_implies, false_implies, Bool.true_eq_false, Bool.false_eq_true, reduceCtorEq, true_and, and_true, featPV, g26_0]
  refine hM _ _ ?_
  clear hM M
  exact pops_done (hJ13 _ _ sj14 (wk_same (wk_any ((wk_any ((wk_any ((wk_any ((wk_any ((wk_any ((wk_any (Wk.refl _ _))))))))))))))))
 ·skip
  intro g26_0 J13 hJ13
  simp only [List.take_succ_cons, List.take_zero]
  simp only [anyAt_cons, anyAt_nil] at hJ13
  refine pops_off (b := true) rfl rfl (by simp only [upd_at, Nat.reduceEqDiff, if_true, if_false, featPV, g26_0]) (by decide) ?_
  refine pops_off (b := true) rfl rfl (by simp only [upd_at, Nat.reduceEqDiff, if_true, if_false, featPV, g26_0]) (by decide) ?_
  refine pops_off (b := true) rfl rfl (by simp only [upd_at, Nat.reduceEqDiff, if_true, if_false, featPV, g26_0]) (by decide) ?_
  refine pops_off0 rfl rfl (by simp only [upd_at, Nat.reduceEqDiff, if_true, if_false, featPV, g26_0]) ?_
  refine pops_off0 rfl rfl (by simp only [upd_at, Nat.reduceEqDiff, if_true, if_false, featPV, g26_0]) ?_
  refine pops_off0 rfl rfl (by simp only [upd_at, Nat.reduceEqDiff, if_true, if_false, featPV, g26_0]) ?_
  refine pops_off (b := true) rfl rfl (by simp only [upd_at, Nat.reduceEqDiff, if_true, if_false, featPV, g26_0]) (by decide) ?_
  refine pops_to rfl fun M hM => ?_
  simp only [pop, St.eval, constSlot, upd_at, Nat.reduceEqDiff, if_true, if_false, popIf, true_implies, false_implies, Bool.true_eq_false, Bool.false_eq_true, reduceCtorEq, true_and, and_true, featPV, g26_0]
  refine hM _ _ ?_
  clear hM M
  exact pops_done (hJ13 _ _ (Same.refl _) (wk_same (wk_any ((wk_any ((wk_any ((wk_any ((wk_any ((wk_any ((wk_any (Wk.refl _ _))))))))))))))))
 simp only [List.drop_succ_cons, List.drop_zero, anyAt_cons, anyAt_nil]
 intro hj13 sj13
 replace sj13 := Same.trans sj11 sj13
 refine pops_mv (.inl rfl) rfl (by simp only [St.eval, upd_at, Nat.reduceEqDiff, if_true, if_false, featPV] <;> rfl) ?_
 apply pops_or 5 35 40 [36, 37, 38, 39] (by simp only [upd_at, Nat.reduceEqDiff, if_true, if_false, featPV] <;> rfl)
 ·skip
  intro g35_0 J15 hJ15
  simp only [List.take_succ_cons, List.take_zero]
  simp only [anyAt_cons, anyAt_nil] at hJ15
  refine pops_do rfl rfl (by simp only [upd_at, Nat.reduceEqDiff, if_true, if_false, featPV, g35_0]) fun M hM => ?_
  simp only [pop, St.eval, constSlot, upd_at, Nat.reduceEqDiff, if_true, if_false, popFieldAddr, fieldOf, List.drop_succ_cons, List.drop_zero, List.getElem?_toArray, List.getElem?_cons_zero, List.getElem?_cons_succ, Tryz.underlying23, sz9, featPV, g35_0]
  refine ⟨⟨_, rfl⟩, hM _ _ ?_⟩
  clear hM M
  refine pops_do rfl rfl (by simp only [upd_at, Nat.reduceEqDiff, if_true, if_false, featPV, g35_0]) fun M hM => ?_
  simp only [pop, St.eval, constSlot, upd_at, Nat.reduceEqDiff, if_true, if_false, popLoad, loadK, isAggD, List.drop_zero, List.getElem?_toArray, List.getElem?_cons_zero, List.getElem?_cons_succ, Bool.false_eq_true, Tryz.underlying9, sz9, eq_self, true_and, and_true, featPV, g35_0]
  refine hM _ _ ?_
  clear hM M
  refine pops_do rfl rfl (by simp only [upd_at, Nat.reduceEqDiff, if_true, if_false, featPV, g35_0]) fun M hM => ?_
  simp only [pop, St.eval, constSlot, upd_at, Nat.reduceEqDiff, if_true, if_false, popCall, List.toList_toArray, List.map_cons, List.map_nil, svs, List.mapM_cons, List.mapM_nil, Option.bind_eq_bind, Option.bind_some, Option.pure_def, List.append_nil, List.cons_append, List.nil_append, str_size, featPV, g35_0]
  refine PFun.use (forbidForm_fun W0 x.forbid hf) fun h5 s5 => hM _ _ ?_
  replace s5 := Same.trans (Same.refl _) s5
  clear hM M
  refine pops_do rfl rfl (by simp only [upd_at, Nat.reduceEqDiff, if_true, if_false, featPV, g35_0]) fun M hM => ?_
  simp only [pop, St.eval, constSlot, upd_at, Nat.reduceEqDiff, if_true, if_false, unK, featPV, g35_0]
  refine hM _ _ ?_
  clear hM M
  refine pops_to rfl fun M hM => ?_
  simp only [pop, St.eval, constSlot, upd_at, Nat.reduceEqDiff, if_true, if_false, popIf, true_implies, false_implies, Bool.true_eq_false, Bool.false_eq_true, reduceCtorEq, true_and, and_true, featPV, g35_0]
  refine hM _ _ ?_
  clear hM M
  exact pops_done (hJ15 _ _ s5 (wk_same (wk_any ((wk_any ((wk_any ((wk_any (Wk.refl _ _))))))))))
 ·skip
  intro g35_0 J15 hJ15
  simp only [List.take_succ_cons, List.take_zero]
  simp only [anyAt_cons, anyAt_nil] at hJ15
  refine pops_off (b := true) rfl rfl (by simp only [upd_at, Nat.reduceEqDiff, if_true, if_false, featPV, g35_0]) (by decide) ?_
  refine pops_off (b := true) rfl rfl (by simp only [upd_at, Nat.reduceEqDiff, if_true, if_false, featPV, g35_0]) (by decide) ?_
  refine pops_off (b := true) rfl rfl (by simp only [upd_at, Nat.reduceEqDiff, if_true, if_false, featPV, g35_0]) (by decide) ?_
  refine pops_off (b := true) rfl rfl (by simp only [upd_at, Nat.reduceEqDiff, if_true, if_false, featPV, g35_0]) (by decide) ?_
  refine pops_to rfl fun M hM => ?_
  simp only [pop, St.eval, constSlot, upd_at, Nat.reduceEqDiff, if_true, if_false, popIf, true_implies, false_implies, Bool.true_eq_false, Bool.false_eq_true, reduceCtorEq, true_and, and_true, featPV, g35_0]
  refine hM _ _ ?_
  clear hM M
  exact pops_done (hJ15 _ _ (Same.refl _) (wk_same (wk_any ((wk_any ((wk_any ((wk_any (Wk.refl _ _))))))))))
 simp only [List.drop_succ_cons, List.drop_zero, anyAt_cons, anyAt_nil]
 intro hj15 sj15
 replace sj15 := Same.trans sj13 sj15
 refine pops_done (hR9 _ ?_)
 clear hR9 R9
 try simp only [thenK, scopeK]
 refine hN8 _ ?_
 clear hN8 N8
 refine pwp_cond (by simp only [St.eval, upd_at, Nat.reduceEqDiff, if_true, if_false, featPV] <;> rfl) (fun c40 => ?_) (fun c40 => ?_)
 ·skip
  have he := featE_6 (x := x) c40
  refine pwp_then fun N16 hN16 => ?_
  refine pwp_reg fun R17 hR17 => ?_
  refine pops_mv (.inr rfl) rfl (by simp only [St.eval, constSlot] <;> rfl) ?_
  refine pops_done (hR17 _ ?_)
  clear hR17 R17
  try simp only [thenK, scopeK]
  refine hN16 _ ?_
  clear hN16 N16
  refine pwp_ret ?_
  simp only [thenK, blockK, scopeK, bodyK]
  clear hN7 N7
  refine ⟨_, rfl, endFun sj15 ?_⟩
  try simp only [upd_at, Nat.reduceEqDiff, if_true, if_false, featPV]
  all_goals
   rw [he]
 ·skip
  have hF6 : (formFB x || !ffB x.forbid) = false := c40
  refine pwp_skip ?_
  try simp only [thenK, scopeK]
  refine hN7 _ ?_
  clear hN7 N7
  refine pwp_then fun N18 hN18 => ?_
  refine pwp_reg fun R19 hR19 => ?_
  refine pops_mv (.inr rfl) rfl (by simp only [St.eval, constSlot] <;> rfl) ?_
  refine pops_done (hR19 _ ?_)
  clear hR19 R19
  try simp only [thenK, scopeK]
  refine hN18 _ ?_
  clear hN18 N18
  refine pwp_then fun N20 hN20 => ?_
  refine pwp_then fun N21 hN21 => ?_
  refine pwp_reg fun R22 hR22 => ?_
  refine pops_to rfl fun M hM => ?_
  simp only [pop, St.eval, constSlot, upd_at, Nat.reduceEqDiff, if_true, if_false, popCall, List.toList_toArray, List.map_cons, List.map_nil, svs, List.mapM_cons, List.mapM_nil, Option.bind_eq_bind, Option.bind_some, Option.pure_def, List.append_nil, List.cons_append, List.nil_append, str_size, featPV]
  refine PFun.use (kinds_fun W0) fun h6 s6 => hM _ _ ?_
  replace s6 := Same.trans sj15 s6
  clear hM M
  refine pops_to rfl fun M hM => ?_
  simp only [pop, St.eval, constSlot, upd_at, Nat.reduceEqDiff, if_true, if_false, popCall, List.toList_toArray, List.map_cons, List.map_nil, popBuiltin, popLen, lenOfSlot, List.length_map, Tryz.underlying54, eq_self, true_and, and_true, str_list, str_size, str_app, str_cut, str_get, featPV]
  refine hM _ _ ?_
  clear hM M
  refine pops_mv (.inl rfl) rfl (by simp only [St.eval, constSlot] <;> rfl) ?_
  refine pops_done (hR22 _ ?_)
  clear hR22 R22
  try simp only [thenK, scopeK]
  refine hN21 _ ?_
  clear hN21 N21
  refine pwp_block ?_
  refine pwp_loop (fun k σ => ∃ (i : Nat), (k = 5 - i) ∧ (i ≤ 5) ∧ (Same h σ.hp) ∧ (σ.env 1 = .sv (.one (.rop (featPV x)))) ∧ (σ.env 4 = .sv (.one (.clo (.func 102) []))) ∧ (σ.env 41 = .sv (.one (.ro true 1 KL))) ∧ (σ.env 42 = .sv (.one (pint (KL.length : Nat)))) ∧ (σ.env 43 = .sv (.one (pint (i : Nat)))) ∧ (σ.env 5 = .sv (.one (pint (kacc i))))) _ ⟨_, .refl _ _, 0, rfl, ?_⟩ ?_
  · exact ⟨Nat.zero_le _, s6, by simp only [upd_at, Nat.reduceEqDiff, if_true, if_false, featPV], by simp only [upd_at, Nat.reduceEqDiff, if_true, if_false, featPV], by simp only [upd_at, Nat.reduceEqDiff, if_true, if_false, featPV], by simp only [upd_at, Nat.reduceEqDiff, if_true, if_false] <;> rfl, by simp only [upd_at, Nat.reduceEqDiff, if_true, if_false]; rfl, by simp only [upd_at, Nat.reduceEqDiff, if_true, if_false]; rfl⟩
  ·rintro k ⟨e, hp0⟩ ⟨i, hk0, hx0_0, sl0, e0_1, e0_4, e0_41, e0_42, e0_43, e0_5⟩
   simp only at sl0 e0_1 e0_4 e0_41 e0_42 e0_43 e0_5
   refine pwp_then fun N23 hN23 => ?_
   refine pwp_reg fun R24 hR24 => ?_
   refine pops_to rfl fun M hM => ?_
   simp only [pop, St.eval, constSlot, upd_at, Nat.reduceEqDiff, if_true, if_false, popBin, binK, intK, strK, eqK, eq_self, true_and, and_true, e0_1, e0_4, e0_41, e0_42, e0_43, e0_5, featPV]
   refine hM _ _ ?_
   clear hM M
   refine pops_done (hR24 _ ?_)
   clear hR24 R24
   try simp only [thenK, scopeK]
   refine hN23 _ ?_
   clear hN23 N23
   refine pwp_then fun N25 hN25 => ?_
   refine pwp_cond (by simp only [St.eval, upd_at, Nat.reduceEqDiff, if_true, if_false, e0_1, e0_4, e0_41, e0_42, e0_43, e0_5, featPV] <;> rfl) (fun c44 => ?_) (fun c44 => ?_)
   ·skip
    have hi : i < 5 := by have := of_decide_eq_true c44; simp only [List.length_cons, List.length_nil] at this; omega
    have hget := KL_at hi
    have hks := kstep hi
    refine pwp_skip ?_
    try simp only [thenK, scopeK]
    refine hN25 _ ?_
    clear hN25 N25
    refine pwp_then fun N26 hN26 => ?_
    refine pwp_block ?_
    refine pwp_then fun N27 hN27 => ?_
    refine pwp_reg fun R28 hR28 => ?_
    refine pops_to rfl fun M hM => ?_
    simp only [pop, St.eval, constSlot, upd_at, Nat.reduceEqDiff, if_true, if_false, popIndexAddr, Tryz.underlying54, sz3, eq_self, true_and, and_true, str_list, str_size, str_app, str_cut, str_get, e0_1, e0_4, e0_41, e0_42, e0_43, e0_5, featPV, hget, Int.toNat_natCast]
    refine ⟨Int.natCast_nonneg _, hM _ _ ?_⟩
    clear hM M
    refine pops_to rfl fun M hM => ?_
    simp only [pop, St.eval, constSlot, upd_at, Nat.reduceEqDiff, if_true, if_false, popLoad, loadK, isAggD, List.drop_zero, List.getElem?_toArray, List.getElem?_cons_zero, List.getElem?_cons_succ, Bool.false_eq_true, Tryz.underlying3, sz3, eq_self, true_and, and_true, e0_1, e0_4, e0_41, e0_42, e0_43, e0_5, featPV]
    refine hM _ _ ?_
    clear hM M
    refine pops_mv (.inr rfl) rfl (by simp only [St.eval, upd_at, Nat.reduceEqDiff, if_true, if_false, e0_1, e0_4, e0_41, e0_42, e0_43, e0_5, featPV] <;> rfl) ?_
    refine pops_done (hR28 _ ?_)
    clear hR28 R28
    try simp only [thenK, scopeK]
    refine hN27 _ ?_
    clear hN27 N27
    refine pwp_reg fun R29 hR29 => ?_
    refine pops_mv (.inl rfl) rfl (by simp only [St.eval, upd_at, Nat.reduceEqDiff, if_true, if_false, e0_1, e0_4, e0_41, e0_42, e0_43, e0_5, featPV] <;> rfl) ?_
    refine pops_mv (.inl rfl) rfl (by simp only [St.eval, upd_at, Nat.reduceEqDiff, if_true, if_false, e0_1, e0_4, e0_41, e0_42, e0_43, e0_5, featPV] <;> rfl) ?_
    refine pops_to rfl fun M hM => ?_
    simp only [pop, St.eval, constSlot, upd_at, Nat.reduceEqDiff, if_true, if_false, popBin, binK, intK, strK, eqK, eq_self, true_and, and_true, e0_1, e0_4, e0_41, e0_42, e0_43, e0_5, featPV]
    refine ⟨by omega, hM _ _ ?_⟩
    clear hM M
    refine pops_to rfl fun M hM => ?_
    simp only [pop, St.eval, constSlot, upd_at, Nat.reduceEqDiff, if_true, if_false, popBin, binK, intK, strK, eqK, eq_self, true_and, and_true, e0_1, e0_4, e0_41, e0_42, e0_43, e0_5, featPV, hks]
    refine hM _ _ ?_
    clear hM M
    refine pops_mv (.inr rfl) rfl (by simp only [St.eval, upd_at, Nat.reduceEqDiff, if_true, if_false, e0_1, e0_4, e0_41, e0_42, e0_43, e0_5, featPV] <;> rfl) ?_
    refine pops_done (hR29 _ ?_)
    clear hR29 R29
    try simp only [blockK, thenK, scopeK]
    try simp only [thenK, scopeK]
    refine hN26 _ ?_
    clear hN26 N26
    refine pwp_reg fun R30 hR30 => ?_
    refine pops_to rfl fun M hM => ?_
    simp only [pop, St.eval, constSlot, upd_at, Nat.reduceEqDiff, if_true, if_false, popBin, binK, intK, strK, eqK, eq_self, true_and, and_true, e0_1, e0_4, e0_41, e0_42, e0_43, e0_5, featPV]
    refine hM _ _ ?_
    clear hM M
    refine pops_mv (.inl rfl) rfl (by simp only [St.eval, upd_at, Nat.reduceEqDiff, if_true, if_false, e0_1, e0_4, e0_41, e0_42, e0_43, e0_5, featPV] <;> rfl) ?_
    refine pops_done (hR30 _ ?_)
    clear hR30 R30
    try simp only [thenK, scopeK]
    exact ⟨_, by omega, _, .refl _ _, i + 1, rfl, by omega, sl0, by simp only [upd_at, Nat.reduceEqDiff, if_true, if_false, e0_1, e0_4, e0_41, e0_42, e0_43, e0_5, featPV], by simp only [upd_at, Nat.reduceEqDiff, if_true, if_false, e0_1, e0_4, e0_41, e0_42, e0_43, e0_5, featPV], by simp only [upd_at, Nat.reduceEqDiff, if_true, if_false, e0_1, e0_4, e0_41, e0_42, e0_43, e0_5, featPV], by simp only [upd_at, Nat.reduceEqDiff, if_true, if_false, e0_1, e0_4, e0_41, e0_42, e0_43, e0_5, featPV], by simp only [upd_at, Nat.reduceEqDiff, if_true, if_false, e0_43]; rw [wrap_succ (by omega)], by simp only [upd_at, Nat.reduceEqDiff, if_true, if_false, e0_1, e0_4, e0_41, e0_42, e0_43, e0_5, featPV]⟩
   ·skip
    have hi : ¬ i < 5 := by have := of_decide_eq_false c44; simp only [List.length_cons, List.length_nil] at this; omega
    have hi5 : i = 5 := by omega
    subst hi5
    have hk5 : kacc 5 = 62 := rfl
    refine pwp_exit ?_
    try simp only [thenK, blockK, scopeK, if_true, Nat.reduceEqDiff, if_false]
    clear hN25 N25
    try simp only [blockK, scopeK, if_true, Nat.reduceEqDiff, if_false, thenK]
    try simp only [thenK, scopeK]
    refine hN20 _ ?_
    clear hN20 N20
    refine pwp_then fun N31 hN31 => ?_
    refine pwp_then fun N32 hN32 => ?_
    refine pwp_reg fun R33 hR33 => ?_
    refine pops_to rfl fun M hM => ?_
    simp only [pop, St.eval, constSlot, upd_at, Nat.reduceEqDiff, if_true, if_false, popFieldAddr, fieldOf, List.drop_succ_cons, List.drop_zero, List.getElem?_toArray, List.getElem?_cons_zero, List.getElem?_cons_succ, Tryz.underlying23, sz3, e0_1, e0_4, e0_41, e0_42, e0_43, e0_5, featPV]
    refine ⟨⟨_, rfl⟩, hM _ _ ?_⟩
    clear hM M
    refine pops_to rfl fun M hM => ?_
    simp only [pop, St.eval, constSlot, upd_at, Nat.reduceEqDiff, if_true, if_false, popLoad, loadK, isAggD, List.drop_zero, List.getElem?_toArray, List.getElem?_cons_zero, List.getElem?_cons_succ, Bool.false_eq_true, Tryz.underlying3, sz3, eq_self, true_and, and_true, e0_1, e0_4, e0_41, e0_42, e0_43, e0_5, featPV]
    refine hM _ _ ?_
    clear hM M
    refine pops_mv (.inl rfl) rfl (by simp only [St.eval, upd_at, Nat.reduceEqDiff, if_true, if_false, e0_1, e0_4, e0_41, e0_42, e0_43, e0_5, featPV] <;> rfl) ?_
    refine pops_to rfl fun M hM => ?_
    simp only [pop, St.eval, constSlot, upd_at, Nat.reduceEqDiff, if_true, if_false, popBin, binK, intK, strK, eqK, eq_self, true_and, and_true, e0_1, e0_4, e0_41, e0_42, e0_43, e0_5, featPV, hk5]
    refine hM _ _ ?_
    clear hM M
    refine pops_to rfl fun M hM => ?_
    simp only [pop, St.eval, constSlot, upd_at, Nat.reduceEqDiff, if_true, if_false, popBin, binK, intK, strK, eqK, Tryz.underlying3, isPtr, eq_self, true_and, and_true, e0_1, e0_4, e0_41, e0_42, e0_43, e0_5, featPV]
    refine hM _ _ ?_
    clear hM M
    refine pops_done (hR33 _ ?_)
    clear hR33 R33
    try simp only [thenK, scopeK]
    refine hN32 _ ?_
    clear hN32 N32
    refine pwp_cond (by simp only [St.eval, upd_at, Nat.reduceEqDiff, if_true, if_false, e0_1, e0_4, e0_41, e0_42, e0_43, e0_5, featPV] <;> rfl) (fun c56 => ?_) (fun c56 => ?_)
    ·skip
     have he := featE_5 hF6 c56
     refine pwp_then fun N34 hN34 => ?_
     refine pwp_reg fun R35 hR35 => ?_
     refine pops_mv (.inr rfl) rfl (by simp only [St.eval, constSlot] <;> rfl) ?_
     refine pops_done (hR35 _ ?_)
     clear hR35 R35
     try simp only [thenK, scopeK]
     refine hN34 _ ?_
     clear hN34 N34
     refine pwp_ret ?_
     simp only [thenK, blockK, scopeK, bodyK]
     clear hN31 N31
     refine ⟨_, rfl, endFun sl0 ?_⟩
     try simp only [upd_at, Nat.reduceEqDiff, if_true, if_false, e0_1, e0_4, e0_41, e0_42, e0_43, e0_5, featPV]
     all_goals
      rw [he]
    ·skip
     have hF5 : (andNotI x.sums 62 != 0) = false := c56
     refine pwp_skip ?_
     try simp only [thenK, scopeK]
     refine hN31 _ ?_
     clear hN31 N31
     refine pwp_then fun N36 hN36 => ?_
     refine pwp_then fun N37 hN37 => ?_
     refine pwp_reg fun R38 hR38 => ?_
     refine pops_mv (.inl rfl) rfl (by simp only [St.eval, upd_at, Nat.reduceEqDiff, if_true, if_false, e0_1, e0_4, e0_41, e0_42, e0_43, e0_5, featPV] <;> rfl) ?_
     refine pops_to rfl fun M hM => ?_
     simp only [pop, St.eval, constSlot, upd_at, Nat.reduceEqDiff, if_true, if_false, popFieldAddr, fieldOf, List.drop_succ_cons, List.drop_zero, List.getElem?_toArray, List.getElem?_cons_zero, List.getElem?_cons_succ, Tryz.underlying23, sz3, e0_1, e0_4, e0_41, e0_42, e0_43, e0_5, featPV]
     refine ⟨⟨_, rfl⟩, hM _ _ ?_⟩
     clear hM M
     refine pops_to rfl fun M hM => ?_
     simp only [pop, St.eval, constSlot, upd_at, Nat.reduceEqDiff, if_true, if_false, popLoad, loadK, isAggD, List.drop_zero, List.getElem?_toArray, List.getElem?_cons_zero, List.getElem?_cons_succ, Bool.false_eq_true, Tryz.underlying3, sz3, eq_self, true_and, and_true, e0_1, e0_4, e0_41, e0_42, e0_43, e0_5, featPV]
     refine hM _ _ ?_
     clear hM M
     refine pops_to rfl fun M hM => ?_
     simp only [pop, St.eval, constSlot, upd_at, Nat.reduceEqDiff, if_true, if_false, popCall, List.toList_toArray, List.map_cons, List.map_nil, svs, List.mapM_cons, List.mapM_nil, Option.bind_eq_bind, Option.bind_some, Option.pure_def, List.append_nil, List.cons_append, List.nil_append, str_size, e0_1, e0_4, e0_41, e0_42, e0_43, e0_5, featPV]
     refine PFun.use (within_fun W0 _ _ _) fun h7 s7 => hM _ _ ?_
     replace s7 := Same.trans sl0 s7
     clear hM M
     refine pops_to rfl fun M hM => ?_
     simp only [pop, St.eval, constSlot, upd_at, Nat.reduceEqDiff, if_true, if_false, unK, e0_1, e0_4, e0_41, e0_42, e0_43, e0_5, featPV]
     refine hM _ _ ?_
     clear hM M
     refine pops_mv (.inl rfl) rfl (by simp only [St.eval, upd_at, Nat.reduceEqDiff, if_true, if_false, e0_1, e0_4, e0_41, e0_42, e0_43, e0_5, featPV] <;> rfl) ?_
     apply pops_or 6 62 68 [63, 64, 65, 66, 67] (by simp only [upd_at, Nat.reduceEqDiff, if_true, if_false, e0_1, e0_4, e0_41, e0_42, e0_43, e0_5, featPV] <;> rfl)
     ·skip
      intro g62_0 J39 hJ39
      simp only [List.take_succ_cons, List.take_zero]
      simp only [anyAt_cons, anyAt_nil] at hJ39
      refine pops_mvg (.inl rfl) rfl rfl (by simp only [upd_at, Nat.reduceEqDiff, if_true, if_false, e0_1, e0_4, e0_41, e0_42, e0_43, e0_5, featPV, g62_0]) (by simp only [St.eval, upd_at, Nat.reduceEqDiff, if_true, if_false, e0_1, e0_4, e0_41, e0_42, e0_43, e0_5, featPV, g62_0] <;> rfl) ?_
      refine pops_do rfl rfl (by simp only [upd_at, Nat.reduceEqDiff, if_true, if_false, e0_1, e0_4, e0_41, e0_42, e0_43, e0_5, featPV, g62_0]) fun M hM => ?_
      simp only [pop, St.eval, constSlot, upd_at, Nat.reduceEqDiff, if_true, if_false, popFieldAddr, fieldOf, List.drop_succ_cons, List.drop_zero, List.getElem?_toArray, List.getElem?_cons_zero, List.getElem?_cons_succ, Tryz.underlying23, sz3, e0_1, e0_4, e0_41, e0_42, e0_43, e0_5, featPV, g62_0]
      refine ⟨⟨_, rfl⟩, hM _ _ ?_⟩
      clear hM M
      refine pops_do rfl rfl (by simp only [upd_at, Nat.reduceEqDiff, if_true, if_false, e0_1, e0_4, e0_41, e0_42, e0_43, e0_5, featPV, g62_0]) fun M hM => ?_
      simp only [pop, St.eval, constSlot, upd_at, Nat.reduceEqDiff, if_true, if_false, popLoad, loadK, isAggD, List.drop_zero, List.getElem?_toArray, List.getElem?_cons_zero, List.getElem?_cons_succ, Bool.false_eq_true, Tryz.underlying3, sz3, eq_self, true_and, and_true, e0_1, e0_4, e0_41, e0_42, e0_43, e0_5, featPV, g62_0]
      refine hM _ _ ?_
      clear hM M
      refine pops_do rfl rfl (by simp only [upd_at, Nat.reduceEqDiff, if_true, if_false, e0_1, e0_4, e0_41, e0_42, e0_43, e0_5, featPV, g62_0]) fun M hM => ?_
      simp only [pop, St.eval, constSlot, upd_at, Nat.reduceEqDiff, if_true, if_false, popCall, List.toList_toArray, List.map_cons, List.map_nil, svs, List.mapM_cons, List.mapM_nil, Option.bind_eq_bind, Option.bind_some, Option.pure_def, List.append_nil, List.cons_append, List.nil_append, str_size, e0_1, e0_4, e0_41, e0_42, e0_43, e0_5, featPV, g62_0]
      refine PFun.use (within_fun W0 _ _ _) fun h8 s8 => hM _ _ ?_
      replace s8 := Same.trans (Same.refl _) s8
      clear hM M
      refine pops_do rfl rfl (by simp only [upd_at, Nat.reduceEqDiff, if_true, if_false, e0_1, e0_4, e0_41, e0_42, e0_43, e0_5, featPV, g62_0]) fun M hM => ?_
      simp only [pop, St.eval, constSlot, upd_at, Nat.reduceEqDiff, if_true, if_false, unK, e0_1, e0_4, e0_41, e0_42, e0_43, e0_5, featPV, g62_0]
      refine hM _ _ ?_
      clear hM M
      refine pops_to rfl fun M hM => ?_
      simp only [pop, St.eval, constSlot, upd_at, Nat.reduceEqDiff, if_true, if_false, popIf, true_implies, false_implies, Bool.true_eq_false, Bool.false_eq_true, reduceCtorEq, true_and, and_true, e0_1, e0_4, e0_41, e0_42, e0_43, e0_5, featPV, g62_0]
      refine hM _ _ ?_
      clear hM M
      exact pops_done (hJ39 _ _ s8 (wk_same (wk_any ((wk_any ((wk_any ((wk_any ((wk_any (Wk.refl _ _))))))))))))
     ·skip
      intro g62_0 J39 hJ39
      simp only [List.take_succ_cons, List.take_zero]
      simp only [anyAt_cons, anyAt_nil] at hJ39
      refine pops_off (b := true) rfl rfl (by simp only [upd_at, Nat.reduceEqDiff, if_true, if_false, e0_1, e0_4, e0_41, e0_42, e0_43, e0_5, featPV, g62_0]) (by decide) ?_
      refine pops_off (b := true) rfl rfl (by simp only [upd_at, Nat.reduceEqDiff, if_true, if_false, e0_1, e0_4, e0_41, e0_42, e0_43, e0_5, featPV, g62_0]) (by decide) ?_
      refine pops_off (b := true) rfl rfl (by simp only [upd_at, Nat.reduceEqDiff, if_true, if_false, e0_1, e0_4, e0_41, e0_42, e0_43, e0_5, featPV, g62_0]) (by decide) ?_
      refine pops_off (b := true) rfl rfl (by simp only [upd_at, Nat.reduceEqDiff, if_true, if_false, e0_1, e0_4, e0_41, e0_42, e0_43, e0_5, featPV, g62_0]) (by decide) ?_
      refine pops_off (b := true) rfl rfl (by simp only [upd_at, Nat.reduceEqDiff, if_true, if_false, e0_1, e0_4, e0_41, e0_42, e0_43, e0_5, featPV, g62_0]) (by decide) ?_
      refine pops_to rfl fun M hM => ?_
      simp only [pop, St.eval, constSlot, upd_at, Nat.reduceEqDiff, if_true, if_false, popIf, true_implies, false_implies, Bool.true_eq_false, Bool.false_eq_true, reduceCtorEq, true_and, and_true, e0_1, e0_4, e0_41, e0_42, e0_43, e0_5, featPV, g62_0]
      refine hM _ _ ?_
      clear hM M
      exact pops_done (hJ39 _ _ (Same.refl _) (wk_same (wk_any ((wk_any ((wk_any ((wk_any ((wk_any (Wk.refl _ _))))))))))))
     simp only [List.drop_succ_cons, List.drop_zero, anyAt_cons, anyAt_nil]
     intro hj39 sj39
     replace sj39 := Same.trans s7 sj39
     refine pops_mv (.inl rfl) rfl (by simp only [St.eval, upd_at, Nat.reduceEqDiff, if_true, if_false, e0_1, e0_4, e0_41, e0_42, e0_43, e0_5, featPV] <;> rfl) ?_
     apply pops_or 8 69 77 [70, 71, 72, 73, 74, 75, 76] (by simp only [upd_at, Nat.reduceEqDiff, if_true, if_false, e0_1, e0_4, e0_41, e0_42, e0_43, e0_5, featPV] <;> rfl)
     ·skip
      intro g69_0 J40 hJ40
      simp only [List.take_succ_cons, List.take_zero]
      simp only [anyAt_cons, anyAt_nil] at hJ40
      refine pops_mvg (.inl rfl) rfl rfl (by simp only [upd_at, Nat.reduceEqDiff, if_true, if_false, e0_1, e0_4, e0_41, e0_42, e0_43, e0_5, featPV, g69_0]) (by simp only [St.eval, upd_at, Nat.reduceEqDiff, if_true, if_false, e0_1, e0_4, e0_41, e0_42, e0_43, e0_5, featPV, g69_0] <;> rfl) ?_
      refine pops_do rfl rfl (by simp only [upd_at, Nat.reduceEqDiff, if_true, if_false, e0_1, e0_4, e0_41, e0_42, e0_43, e0_5, featPV, g69_0]) fun M hM => ?_
      simp only [pop, St.eval, constSlot, upd_at, Nat.reduceEqDiff, if_true, if_false, popFieldAddr, fieldOf, List.drop_succ_cons, List.drop_zero, List.getElem?_toArray, List.getElem?_cons_zero, List.getElem?_cons_succ, Tryz.underlying23, sz3, e0_1, e0_4, e0_41, e0_42, e0_43, e0_5, featPV, g69_0]
      refine ⟨⟨_, rfl⟩, hM _ _ ?_⟩
      clear hM M
      refine pops_do rfl rfl (by simp only [upd_at, Nat.reduceEqDiff, if_true, if_false, e0_1, e0_4, e0_41, e0_42, e0_43, e0_5, featPV, g69_0]) fun M hM => ?_
      simp only [pop, St.eval, constSlot, upd_at, Nat.reduceEqDiff, if_true, if_false, popLoad, loadK, isAggD, List.drop_zero, List.getElem?_toArray, List.getElem?_cons_zero, List.getElem?_cons_succ, Bool.false_eq_true, Tryz.underlying3, sz3, eq_self, true_and, and_true, e0_1, e0_4, e0_41, e0_42, e0_43, e0_5, featPV, g69_0]
      refine hM _ _ ?_
      clear hM M
      refine pops_do rfl rfl (by simp only [upd_at, Nat.reduceEqDiff, if_true, if_false, e0_1, e0_4, e0_41, e0_42, e0_43, e0_5, featPV, g69_0]) fun M hM => ?_
      simp only [pop, St.eval, constSlot, upd_at, Nat.reduceEqDiff, if_true, if_false, popFieldAddr, fieldOf, List.drop_succ_cons, List.drop_zero, List.getElem?_toArray, List.getElem?_cons_zero, List.getElem?_cons_succ, Tryz.underlying23, sz3, e0_1, e0_4, e0_41, e0_42, e0_43, e0_5, featPV, g69_0]
      refine ⟨⟨_, rfl⟩, hM _ _ ?_⟩
      clear hM M
      refine pops_do rfl rfl (by simp only [upd_at, Nat.reduceEqDiff, if_true, if_false, e0_1, e0_4, e0_41, e0_42, e0_43, e0_5, featPV, g69_0]) fun M hM => ?_
      simp only [pop, St.eval, constSlot, upd_at, Nat.reduceEqDiff, if_true, if_false, popLoad, loadK, isAggD, List.drop_zero, List.getElem?_toArray, List.getElem?_cons_zero, List.getElem?_cons_succ, Bool.false_eq_true, Tryz.underlying3, sz3, eq_self, true_and, and_true, e0_1, e0_4, e0_41, e0_42, e0_43, e0_5, featPV, g69_0]
      refine hM _ _ ?_
      clear hM M
      refine pops_do rfl rfl (by simp only [upd_at, Nat.reduceEqDiff, if_true, if_false, e0_1, e0_4, e0_41, e0_42, e0_43, e0_5, featPV, g69_0]) fun M hM => ?_
      simp only [pop, St.eval, constSlot, upd_at, Nat.reduceEqDiff, if_true, if_false, popCall, List.toList_toArray, List.map_cons, List.map_nil, svs, List.mapM_cons, List.mapM_nil, Option.bind_eq_bind, Option.bind_some, Option.pure_def, List.append_nil, List.cons_append, List.nil_append, str_size, e0_1, e0_4, e0_41, e0_42, e0_43, e0_5, featPV, g69_0]
      refine PFun.use (within_fun W0 _ _ _) fun h9 s9 => hM _ _ ?_
      replace s9 := Same.trans (Same.refl _) s9
      clear hM M
      refine pops_do rfl rfl (by simp only [upd_at, Nat.reduceEqDiff, if_true, if_false, e0_1, e0_4, e0_41, e0_42, e0_43, e0_5, featPV, g69_0]) fun M hM => ?_
      simp only [pop, St.eval, constSlot, upd_at, Nat.reduceEqDiff, if_true, if_false, unK, e0_1, e0_4, e0_41, e0_42, e0_43, e0_5, featPV, g69_0]
      refine hM _ _ ?_
      clear hM M
      refine pops_to rfl fun M hM => ?_
      simp only [pop, St.eval, constSlot, upd_at, Nat.reduceEqDiff, if_true, if_false, popIf, true_implies, false_implies, Bool.true_eq_false, Bool.false_eq_true, reduceCtorEq, true_and, and_true, e0_1, e0_4, e0_41, e0_42, e0_43, e0_5, featPV, g69_0]
      refine hM _ _ ?_
      clear hM M
      exact pops_done (hJ40 _ _ s9 (wk_same (wk_any ((wk_any ((wk_any ((wk_any ((wk_any ((wk_any ((wk_any (Wk.refl _ _))))))))))))))))
     ·skip
      intro g69_0 J40 hJ40
      simp only [List.take_succ_cons, List.take_zero]
      simp only [anyAt_cons, anyAt_nil] at hJ40
      refine pops_off (b := true) rfl rfl (by simp only [upd_at, Nat.reduceEqDiff, if_true, if_false, e0_1, e0_4, e0_41, e0_42, e0_43, e0_5, featPV, g69_0]) (by decide) ?_
      refine pops_off (b := true) rfl rfl (by simp only [upd_at, Nat.reduceEqDiff, if_true, if_false, e0_1, e0_4, e0_41, e0_42, e0_43, e0_5, featPV, g69_0]) (by decide) ?_
      refine pops_off (b := true) rfl rfl (by simp only [upd_at, Nat.reduceEqDiff, if_true, if_false, e0_1, e0_4, e0_41, e0_42, e0_43, e0_5, featPV, g69_0]) (by decide) ?_
      refine pops_off (b := true) rfl rfl (by simp only [upd_at, Nat.reduceEqDiff, if_true, if_false, e0_1, e0_4, e0_41, e0_42, e0_43, e0_5, featPV, g69_0]) (by decide) ?_
      refine pops_off (b := true) rfl rfl (by simp only [upd_at, Nat.reduceEqDiff, if_true, if_false, e0_1, e0_4, e0_41, e0_42, e0_43, e0_5, featPV, g69_0]) (by decide) ?_
      refine pops_off (b := true) rfl rfl (by simp only [upd_at, Nat.reduceEqDiff, if_true, if_false, e0_1, e0_4, e0_41, e0_42, e0_43, e0_5, featPV, g69_0]) (by decide) ?_
      refine pops_off (b := true) rfl rfl (by simp only [upd_at, Nat.reduceEqDiff, if_true, if_false, e0_1, e0_4, e0_41, e0_42, e0_43, e0_5, featPV, g69_0]) (by decide) ?_
      refine pops_to rfl fun M hM => ?_
      simp only [pop, St.eval, constSlot, upd_at, Nat.reduceEqDiff, if_true, if_false, popIf, true_implies, false_implies, Bool.true_eq_false, Bool.false_eq_true, reduceCtorEq, true_and, and_true, e0_1, e0_4, e0_41, e0_42, e0_43, e0_5, featPV, g69_0]
      refine hM _ _ ?_
      clear hM M
      exact pops_done (hJ40 _ _ (Same.refl _) (wk_same (wk_any ((wk_any ((wk_any ((wk_any ((wk_any ((wk_any ((wk_any (Wk.refl _ _))))))))))))))))
     simp only [List.drop_succ_cons, List.drop_zero, anyAt_cons, anyAt_nil]
     intro hj40 sj40
     replace sj40 := Same.trans sj39 sj40
     refine pops_mv (.inl rfl) rfl (by simp only [St.eval, upd_at, Nat.reduceEqDiff, if_true, if_false, e0_1, e0_4, e0_41, e0_42, e0_43, e0_5, featPV] <;> rfl) ?_
     apply pops_or 6 78 84 [79, 80, 81, 82, 83] (by simp only [upd_at, Nat.reduceEqDiff, if_true, if_false, e0_1, e0_4, e0_41, e0_42, e0_43, e0_5, featPV] <;> rfl)
     ·skip
      intro g78_0 J41 hJ41
      simp only [List.take_succ_cons, List.take_zero]
      simp only [anyAt_cons, anyAt_nil] at hJ41
      refine pops_mvg (.inl rfl) rfl rfl (by simp only [upd_at, Nat.reduceEqDiff, if_true, if_false, e0_1, e0_4, e0_41, e0_42, e0_43, e0_5, featPV, g78_0]) (by simp only [St.eval, upd_at, Nat.reduceEqDiff, if_true, if_false, e0_1, e0_4, e0_41, e0_42, e0_43, e0_5, featPV, g78_0] <;> rfl) ?_
      refine pops_do rfl rfl (by simp only [upd_at, Nat.reduceEqDiff, if_true, if_false, e0_1, e0_4, e0_41, e0_42, e0_43, e0_5, featPV, g78_0]) fun M hM => ?_
      simp only [pop, St.eval, constSlot, upd_at, Nat.reduceEqDiff, if_true, if_false, popFieldAddr, fieldOf, List.drop_succ_cons, List.drop_zero, List.getElem?_toArray, List.getElem?_cons_zero, List.getElem?_cons_succ, Tryz.underlying23, sz3, e0_1, e0_4, e0_41, e0_42, e0_43, e0_5, featPV, g78_0]
      refine ⟨⟨_, rfl⟩, hM _ _ ?_⟩
      clear hM M
      refine pops_do rfl rfl (by simp only [upd_at, Nat.reduceEqDiff, if_true, if_false, e0_1, e0_4, e0_41, e0_42, e0_43, e0_5, featPV, g78_0]) fun M hM => ?_
      simp only [pop, St.eval, constSlot, upd_at, Nat.reduceEqDiff, if_true, if_false, popLoad, loadK, isAggD, List.drop_zero, List.getElem?_toArray, List.getElem?_cons_zero, List.getElem?_cons_succ, Bool.false_eq_true, Tryz.underlying3, sz3, eq_self, true_and, and_true, e0_1, e0_4, e0_41, e0_42, e0_43, e0_5, featPV, g78_0]
      refine hM _ _ ?_
      clear hM M
      refine pops_do rfl rfl (by simp only [upd_at, Nat.reduceEqDiff, if_true, if_false, e0_1, e0_4, e0_41, e0_42, e0_43, e0_5, featPV, g78_0]) fun M hM => ?_
      simp only [pop, St.eval, constSlot, upd_at, Nat.reduceEqDiff, if_true, if_false, popCall, List.toList_toArray, List.map_cons, List.map_nil, svs, List.mapM_cons, List.mapM_nil, Option.bind_eq_bind, Option.bind_some, Option.pure_def, List.append_nil, List.cons_append, List.nil_append, str_size, e0_1, e0_4, e0_41, e0_42, e0_43, e0_5, featPV, g78_0]
      refine PFun.use (within_fun W0 _ _ _) fun h10 s10 => hM _ _ ?_
      replace s10 := Same.trans (Same.refl _) s10
      clear hM M
      refine pops_do rfl rfl (by simp only [upd_at, Nat.reduceEqDiff, if_true, if_false, e0_1, e0_4, e0_41, e0_42, e0_43, e0_5, featPV, g78_0]) fun M hM => ?_
      simp only [pop, St.eval, constSlot, upd_at, Nat.reduceEqDiff, if_true, if_false, unK, e0_1, e0_4, e0_41, e0_42, e0_43, e0_5, featPV, g78_0]
      refine hM _ _ ?_
      clear hM M
      refine pops_to rfl fun M hM => ?_
      simp only [pop, St.eval, constSlot, upd_at, Nat.reduceEqDiff, if_true, if_false, popIf, true_implies, false_implies, Bool.true_eq_false, Bool.false_eq_true, reduceCtorEq, true_and, and_true, e0_1, e0_4, e0_41, e0_42, e0_43, e0_5, featPV, g78_0]
      refine hM _ _ ?_
      clear hM M
      exact pops_done (hJ41 _ _ s10 (wk_same (wk_any ((wk_any ((wk_any ((wk_any ((wk_any (Wk.refl _ _))))))))))))
     ·skip
      intro g78_0 J41 hJ41
      simp only [List.take_succ_cons, List.take_zero]
      simp only [anyAt_cons, anyAt_nil] at hJ41
      refine pops_off (b := true) rfl rfl (by simp only [upd_at, Nat.reduceEqDiff, if_true, if_false, e0_1, e0_4, e0_41, e0_42, e0_43, e0_5, featPV, g78_0]) (by decide) ?_
      refine pops_off (b := true) rfl rfl (by simp only [upd_at, Nat.reduceEqDiff, if_true, if_false, e0_1, e0_4, e0_41, e0_42, e0_43, e0_5, featPV, g78_0]) (by decide) ?_
      refine pops_off (b := true) rfl rfl (by simp only [upd_at, Nat.reduceEqDiff, if_true, if_false, e0_1, e0_4, e0_41, e0_42, e0_43, e0_5, featPV, g78_0]) (by decide) ?_
      refine pops_off (b := true) rfl rfl (by simp only [upd_at, Nat.reduceEqDiff, if_true, if_false, e0_1, e0_4, e0_41, e0_42, e0_43, e0_5, featPV, g78_0]) (by decide) ?_
      refine pops_off (b := true) rfl rfl (by simp only [upd_at, Nat.reduceEqDiff, if_true, if_false, e0_1, e0_4, e0_41, e0_42, e0_43, e0_5, featPV, g78_0]) (by decide) ?_
      refine pops_to rfl fun M hM => ?_
      simp only [pop, St.eval, constSlot, upd_at, Nat.reduceEqDiff, if_true, if_false, popIf, true_implies, false_implies, Bool.true_eq_false, Bool.false_eq_true, reduceCtorEq, true_and, and_true, e0_1, e0_4, e0_41, e0_42, e0_43, e0_5, featPV, g78_0]
      refine hM _ _ ?_
      clear hM M
      exact pops_done (hJ41 _ _ (Same.refl _) (wk_same (wk_any ((wk_any ((wk_any ((wk_any ((wk_any (Wk.refl _ _))))))))))))
     simp only [List.drop_succ_cons, List.drop_zero, anyAt_cons, anyAt_nil]
     intro hj41 sj41
     replace sj41 := Same.trans sj40 sj41
     refine pops_mv (.inl rfl) rfl (by simp only [St.eval, upd_at, Nat.reduceEqDiff, if_true, if_false, e0_1, e0_4, e0_41, e0_42, e0_43, e0_5, featPV] <;> rfl) ?_
     apply pops_or 6 85 91 [86, 87, 88, 89, 90] (by simp only [upd_at, Nat.reduceEqDiff, if_true, if_false, e0_1, e0_4, e0_41, e0_42, e0_43, e0_5, featPV] <;> rfl)
     ·skip
      intro g85_0 J42 hJ42
      simp only [List.take_succ_cons, List.take_zero]
      simp only [anyAt_cons, anyAt_nil] at hJ42
      refine pops_mvg (.inl rfl) rfl rfl (by simp only [upd_at, Nat.reduceEqDiff, if_true, if_false, e0_1, e0_4, e0_41, e0_42, e0_43, e0_5, featPV, g85_0]) (by simp only [St.eval, upd_at, Nat.reduceEqDiff, if_true, if_false, e0_1, e0_4, e0_41, e0_42, e0_43, e0_5, featPV, g85_0] <;> rfl) ?_
      refine pops_do rfl rfl (by simp only [upd_at, Nat.reduceEqDiff, if_true, if_false, e0_1, e0_4, e0_41, e0_42, e0_43, e0_5, featPV, g85_0]) fun M hM => ?_
      simp only [pop, St.eval, constSlot, upd_at, Nat.reduceEqDiff, if_true, if_false, popFieldAddr, fieldOf, List.drop_succ_cons, List.drop_zero, List.getElem?_toArray, List.getElem?_cons_zero, List.getElem?_cons_succ, Tryz.underlying23, sz3, e0_1, e0_4, e0_41, e0_42, e0_43, e0_5, featPV, g85_0]
      refine ⟨⟨_, rfl⟩, hM _ _ ?_⟩
      clear hM M
      refine pops_do rfl rfl (by simp only [upd_at, Nat.reduceEqDiff, if_true, if_false, e0_1, e0_4, e0_41, e0_42, e0_43, e0_5, featPV, g85_0]) fun M hM => ?_
      simp only [pop, St.eval, constSlot, upd_at, Nat.reduceEqDiff, if_true, if_false, popLoad, loadK, isAggD, List.drop_zero, List.getElem?_toArray, List.getElem?_cons_zero, List.getElem?_cons_succ, Bool.false_eq_true, Tryz.underlying3, sz3, eq_self, true_and, and_true, e0_1, e0_4, e0_41, e0_42, e0_43, e0_5, featPV, g85_0]
      refine hM _ _ ?_
      clear hM M
      refine pops_do rfl rfl (by simp only [upd_at, Nat.reduceEqDiff, if_true, if_false, e0_1, e0_4, e0_41, e0_42, e0_43, e0_5, featPV, g85_0]) fun M hM => ?_
      simp only [pop, St.eval, constSlot, upd_at, Nat.reduceEqDiff, if_true, if_false, popCall, List.toList_toArray, List.map_cons, List.map_nil, svs, List.mapM_cons, List.mapM_nil, Option.bind_eq_bind, Option.bind_some, Option.pure_def, List.append_nil, List.cons_append, List.nil_append, str_size, e0_1, e0_4, e0_41, e0_42, e0_43, e0_5, featPV, g85_0]
      refine PFun.use (within_fun W0 _ _ _) fun h11 s11 => hM _ _ ?_
      replace s11 := Same.trans (Same.refl _) s11
      clear hM M
      refine pops_do rfl rfl (by simp only [upd_at, Nat.reduceEqDiff, if_true, if_false, e0_1, e0_4, e0_41, e0_42, e0_43, e0_5, featPV, g85_0]) fun M hM => ?_
      simp only [pop, St.eval, constSlot, upd_at, Nat.reduceEqDiff, if_true, if_false, unK, e0_1, e0_4, e0_41, e0_42, e0_43, e0_5, featPV, g85_0]
      refine hM _ _ ?_
      clear hM M
      refine pops_to rfl fun M hM => ?_
      simp only [pop, St.eval, constSlot, upd_at, Nat.reduceEqDiff, if_true, if_false, popIf, true_implies, false_implies, Bool.true_eq_false, Bool.false_eq_true, reduceCtorEq, true_and, and_true, e0_1, e0_4, e0_41, e0_42, e0_43, e0_5, featPV, g85_0]
      refine hM _ _ ?_
      clear hM M
      exact pops_done (hJ42 _ _ s11 (wk_same (wk_any ((wk_any ((wk_any ((wk_any ((wk_any (Wk.refl _ _))))))))))))
     ·skip
      intro g85_0 J42 hJ42
      simp only [List.take_succ_cons, List.take_zero]
      simp only [anyAt_cons, anyAt_nil] at hJ42
      refine pops_off (b := true) rfl rfl (by simp only [upd_at, Nat.reduceEqDiff, if_true, if_false, e0_1, e0_4, e0_41, e0_42, e0_43, e0_5, featPV, g85_0]) (by decide) ?_
      refine pops_off (b := true) rfl rfl (by simp only [upd_at, Nat.reduceEqDiff, if_true, if_false, e0_1, e0_4, e0_41, e0_42, e0_43, e0_5, featPV, g85_0]) (by decide) ?_
      refine pops_off (b := true) rfl rfl (by simp only [upd_at, Nat.reduceEqDiff, if_true, if_false, e0_1, e0_4, e0_41, e0_42, e0_43, e0_5, featPV, g85_0]) (by decide) ?_
      refine pops_off (b := true) rfl rfl (by simp only [upd_at, Nat.reduceEqDiff, if_true, if_false, e0_1, e0_4, e0_41, e0_42, e0_43, e0_5, featPV, g85_0]) (by decide) ?_
      refine pops_off (b := true) rfl rfl (by simp only [upd_at, Nat.reduceEqDiff, if_true, if_false, e0_1, e0_4, e0_41, e0_42, e0_43, e0_5, featPV, g85_0]) (by decide) ?_
      refine pops_to rfl fun M hM => ?_
      simp only [pop, St.eval, constSlot, upd_at, Nat.reduceEqDiff, if_true, if_false, popIf, true_implies, false_implies, Bool.true_eq_false, Bool.false_eq_true, reduceCtorEq, true_and, and_true, e0_1, e0_4, e0_41, e0_42, e0_43, e0_5, featPV, g85_0]
      refine hM _ _ ?_
      clear hM M
      exact pops_done (hJ42 _ _ (Same.refl _) (wk_same (wk_any ((wk_any ((wk_any ((wk_any ((wk_any (Wk.refl _ _))))))))))))
     simp only [List.drop_succ_cons, List.drop_zero, anyAt_cons, anyAt_nil]
     intro hj42 sj42
     replace sj42 := Same.trans sj41 sj42
     refine pops_mv (.inl rfl) rfl (by simp only [St.eval, upd_at, Nat.reduceEqDiff, if_true, if_false, e0_1, e0_4, e0_41, e0_42, e0_43, e0_5, featPV] <;> rfl) ?_
     apply pops_or 9 92 101 [93, 94, 95, 96, 97, 98, 99, 100] (by simp only [upd_at, Nat.reduceEqDiff, if_true, if_false, e0_1, e0_4, e0_41, e0_42, e0_43, e0_5, featPV] <;> rfl)
     ·skip
      intro g92_0 J43 hJ43
      simp only [List.take_succ_cons, List.take_zero]
      simp only [anyAt_cons, anyAt_nil] at hJ43
      refine pops_mvg (.inl rfl) rfl rfl (by simp only [upd_at, Nat.reduceEqDiff, if_true, if_false, e0_1, e0_4, e0_41, e0_42, e0_43, e0_5, featPV, g92_0]) (by simp only [St.eval, upd_at, Nat.reduceEqDiff, if_true, if_false, e0_1, e0_4, e0_41, e0_42, e0_43, e0_5, featPV, g92_0] <;> rfl) ?_
      refine pops_do rfl rfl (by simp only [upd_at, Nat.reduceEqDiff, if_true, if_false, e0_1, e0_4, e0_41, e0_42, e0_43, e0_5, featPV, g92_0]) fun M hM => ?_
      simp only [pop, St.eval, constSlot, upd_at, Nat.reduceEqDiff, if_true, if_false, popFieldAddr, fieldOf, List.drop_succ_cons, List.drop_zero, List.getElem?_toArray, List.getElem?_cons_zero, List.getElem?_cons_succ, Tryz.underlying23, sz3, e0_1, e0_4, e0_41, e0_42, e0_43, e0_5, featPV, g92_0]
      refine ⟨⟨_, rfl⟩, hM _ _ ?_⟩
      clear hM M
      refine pops_do rfl rfl (by simp only [upd_at, Nat.reduceEqDiff, if_true, if_false, e0_1, e0_4, e0_41, e0_42, e0_43, e0_5, featPV, g92_0]) fun M hM => ?_
      simp only [pop, St.eval, constSlot, upd_at, Nat.reduceEqDiff, if_true, if_false, popLoad, loadK, isAggD, List.drop_zero, List.getElem?_toArray, List.getElem?_cons_zero, List.getElem?_cons_succ, Bool.false_eq_true, Tryz.underlying3, sz3, eq_self, true_and, and_true, e0_1, e0_4, e0_41, e0_42, e0_43, e0_5, featPV, g92_0]
      refine hM _ _ ?_
      clear hM M
      refine pops_do rfl rfl (by simp only [upd_at, Nat.reduceEqDiff, if_true, if_false, e0_1, e0_4, e0_41, e0_42, e0_43, e0_5, featPV, g92_0]) fun M hM => ?_
      simp only [pop, St.eval, constSlot, upd_at, Nat.reduceEqDiff, if_true, if_false, popFieldAddr, fieldOf, List.drop_succ_cons, List.drop_zero, List.getElem?_toArray, List.getElem?_cons_zero, List.getElem?_cons_succ, Tryz.underlying23, sz3, e0_1, e0_4, e0_41, e0_42, e0_43, e0_5, featPV, g92_0]
      refine ⟨⟨_, rfl⟩, hM _ _ ?_⟩
      clear hM M
      refine pops_do rfl rfl (by simp only [upd_at, Nat.reduceEqDiff, if_true, if_false, e0_1, e0_4, e0_41, e0_42, e0_43, e0_5, featPV, g92_0]) fun M hM => ?_
      simp only [pop, St.eval, constSlot, upd_at, Nat.reduceEqDiff, if_true, if_false, popLoad, loadK, isAggD, List.drop_zero, List.getElem?_toArray, List.getElem?_cons_zero, List.getElem?_cons_succ, Bool.false_eq_true, Tryz.underlying3, sz3, eq_self, true_and, and_true, e0_1, e0_4, e0_41, e0_42, e0_43, e0_5, featPV, g92_0]
      refine hM _ _ ?_
      clear hM M
      refine pops_do rfl rfl (by simp only [upd_at, Nat.reduceEqDiff, if_true, if_false, e0_1, e0_4, e0_41, e0_42, e0_43, e0_5, featPV, g92_0]) fun M hM => ?_
      simp only [pop, St.eval, constSlot, upd_at, Nat.reduceEqDiff, if_true, if_false, popCall, List.toList_toArray, List.map_cons, List.map_nil, popBuiltin, eq_self, true_and, and_true, str_list, str_size, str_app, str_cut, str_get, e0_1, e0_4, e0_41, e0_42, e0_43, e0_5, featPV, g92_0]
      refine hM _ _ ?_
      clear hM M
      refine pops_do rfl rfl (by simp only [upd_at, Nat.reduceEqDiff, if_true, if_false, e0_1, e0_4, e0_41, e0_42, e0_43, e0_5, featPV, g92_0]) fun M hM => ?_
      simp only [pop, St.eval, constSlot, upd_at, Nat.reduceEqDiff, if_true, if_false, popCall, List.toList_toArray, List.map_cons, List.map_nil, svs, List.mapM_cons, List.mapM_nil, Option.bind_eq_bind, Option.bind_some, Option.pure_def, List.append_nil, List.cons_append, List.nil_append, str_size, e0_1, e0_4, e0_41, e0_42, e0_43, e0_5, featPV, g92_0]
      refine PFun.use (within_fun W0 _ _ _) fun h12 s12 => hM _ _ ?_
      replace s12 := Same.trans (Same.refl _) s12
      clear hM M
      refine pops_do rfl rfl (by simp only [upd_at, Nat.reduceEqDiff, if_true, if_false, e0_1, e0_4, e0_41, e0_42, e0_43, e0_5, featPV, g92_0]) fun M hM => ?_
      simp only [pop, St.eval, constSlot, upd_at, Nat.reduceEqDiff, if_true, if_false, unK, e0_1, e0_4, e0_41, e0_42, e0_43, e0_5, featPV, g92_0]
      refine hM _ _ ?_
      clear hM M
      refine pops_to rfl fun M hM => ?_
      simp only [pop, St.eval, constSlot, upd_at, Nat.reduceEqDiff, if_true, if_false, popIf, true_implies, false_implies, Bool.true_eq_false, Bool.false_eq_true, reduceCtorEq, true_and, and_true, e0_1, e0_4, e0_41, e0_42, e0_43, e0_5, featPV, g92_0]
      refine hM _ _ ?_
      clear hM M
      exact pops_done (hJ43 _ _ s12 (wk_same (wk_any ((wk_any ((wk_any ((wk_any ((wk_any ((wk_any ((wk_any ((wk_any (Wk.refl _ _))))))))))))))))))
     ·skip
      intro g92_0 J43 hJ43
      simp only [List.take_succ_cons, List.take_zero]
      simp only [anyAt_cons, anyAt_nil] at hJ43
      refine pops_off (b := true) rfl rfl (by simp only [upd_at, Nat.reduceEqDiff, if_true, if_false, e0_1, e0_4, e0_41, e0_42, e0_43, e0_5, featPV, g92_0]) (by decide) ?_
      refine pops_off (b := true) rfl rfl (by simp only [upd_at, Nat.reduceEqDiff, if_true, if_false, e0_1, e0_4, e0_41, e0_42, e0_43, e0_5, featPV, g92_0]) (by decide) ?_
      refine pops_off (b := true) rfl rfl (by simp only [upd_at, Nat.reduceEqDiff, if_true, if_false, e0_1, e0_4, e0_41, e0_42, e0_43, e0_5, featPV, g92_0]) (by decide) ?_
      refine pops_off (b := true) rfl rfl (by simp only [upd_at, Nat.reduceEqDiff, if_true, if_false, e0_1, e0_4, e0_41, e0_42, e0_43, e0_5, featPV, g92_0]) (by decide) ?_
      refine pops_off (b := true) rfl rfl (by simp only [upd_at, Nat.reduceEqDiff, if_true, if_false, e0_1, e0_4, e0_41, e0_42, e0_43, e0_5, featPV, g92_0]) (by decide) ?_
      refine pops_off (b := true) rfl rfl (by simp only [upd_at, Nat.reduceEqDiff, if_true, if_false, e0_1, e0_4, e0_41, e0_42, e0_43, e0_5, featPV, g92_0]) (by decide) ?_
      refine pops_off (b := true) rfl rfl (by simp only [upd_at, Nat.reduceEqDiff, if_true, if_false, e0_1, e0_4, e0_41, e0_42, e0_43, e0_5, featPV, g92_0]) (by decide) ?_
      refine pops_off (b := true) rfl rfl (by simp only [upd_at, Nat.reduceEqDiff, if_true, if_false, e0_1, e0_4, e0_41, e0_42, e0_43, e0_5, featPV, g92_0]) (by decide) ?_
      refine pops_to rfl fun M hM => ?_
      simp only [pop, St.eval, constSlot, upd_at, Nat.reduceEqDiff, if_true, if_false, popIf, true_implies, false_implies, Bool.true_eq_false, Bool.false_eq_true, reduceCtorEq, true_and, and_true, e0_1, e0_4, e0_41, e0_42, e0_43, e0_5, featPV, g92_0]
      refine hM _ _ ?_
      clear hM M
      exact pops_done (hJ43 _ _ (Same.refl _) (wk_same (wk_any ((wk_any ((wk_any ((wk_any ((wk_any ((wk_any ((wk_any ((wk_any (Wk.refl _ _))))))))))))))))))
     simp only [List.drop_succ_cons, List.drop_zero, anyAt_cons, anyAt_nil]
     intro hj43 sj43
     replace sj43 := Same.trans sj42 sj43
     refine pops_done (hR38 _ ?_)
     clear hR38 R38
     try simp only [thenK, scopeK]
     refine hN37 _ ?_
     clear hN37 N37
     refine pwp_cond (by simp only [St.eval, upd_at, Nat.reduceEqDiff, if_true, if_false, e0_1, e0_4, e0_41, e0_42, e0_43, e0_5, featPV] <;> rfl) (fun c101 => ?_) (fun c101 => ?_)
     ·skip
      have he := featE_7 hF6 hF5 c101
      refine pwp_then fun N44 hN44 => ?_
      refine pwp_reg fun R45 hR45 => ?_
      refine pops_mv (.inr rfl) rfl (by simp only [St.eval, constSlot] <;> rfl) ?_
      refine pops_done (hR45 _ ?_)
      clear hR45 R45
      try simp only [thenK, scopeK]
      refine hN44 _ ?_
      clear hN44 N44
      refine pwp_ret ?_
      simp only [thenK, blockK, scopeK, bodyK]
      clear hN36 N36
      refine ⟨_, rfl, endFun sj43 ?_⟩
      try simp only [upd_at, Nat.reduceEqDiff, if_true, if_false, e0_1, e0_4, e0_41, e0_42, e0_43, e0_5, featPV]
      all_goals
       rw [he]
     ·skip
      have he := featE_0 hF6 hF5 c101
      refine pwp_skip ?_
      try simp only [thenK, scopeK]
      refine hN36 _ ?_
      clear hN36 N36
      refine pwp_then fun N46 hN46 => ?_
      refine pwp_reg fun R47 hR47 => ?_
      refine pops_mv (.inr rfl) rfl (by simp only [St.eval, constSlot] <;> rfl) ?_
      refine pops_done (hR47 _ ?_)
      clear hR47 R47
      try simp only [thenK, scopeK]
      refine hN46 _ ?_
      clear hN46 N46
      refine pwp_ret ?_
      simp only [thenK, blockK, scopeK, bodyK]
      refine ⟨_, rfl, endFun sj43 ?_⟩
      try simp only [upd_at, Nat.reduceEqDiff, if_true, if_false, e0_1, e0_4, e0_41, e0_42, e0_43, e0_5, featPV]
      all_goals
       rw [he]

theorem nm20 : (Tryz.f20.name == "runtime.NumGoroutine") = false := by kernel_rfl
set_option maxHeartbeats 2000000 in
theorem checkFeatRef_fun (W0 : World) (x : Feat) (hf : x.forbid.length ≤ 9223372036854775807) (hz : inI64 x.sums) :
  PFun Tryz.prog W0 20 [.agg (featPV x), .one (.ro true 1 KL)] (.sv (.one (pint (featE x)))) := by
 intro h
 generalize hs : x.forbid = s at hf
 have hfp : featPV x = [pint x.has, pint x.sums, pint x.prec, pint x.maxName, pint x.maxPath, pint x.maxSize, pint x.page, pint x.partSize, pstr s] := by rw [← hs]; rfl
 refine pcalls2 (n := 140) Tryz.func20 rfl nm20 rfl fun hb => ?_
 refine pwp_then fun N1 hN1 => ?_
 refine pwp_reg fun R2 hR2 => ?_
 refine pops_to rfl fun M hM => ?_
 simp only [pop, St.eval, constSlot, upd_at, Nat.reduceEqDiff, if_true, if_false, popBox, popBoxRo, slotCells, featPV]
 refine .inr ⟨Nat.succ_pos _, hM _ _ ?_⟩
 clear hM M
 refine pops_mv (.inr rfl) rfl (by simp only [St.eval, constSlot] <;> rfl) ?_
 refine pops_done (hR2 _ ?_)
 clear hR2 R2
 try simp only [thenK, scopeK]
 refine hN1 _ ?_
 clear hN1 N1
 refine pwp_then fun N3 hN3 => ?_
 refine pwp_then fun N4 hN4 => ?_
 refine pwp_reg fun R5 hR5 => ?_
 refine pops_to rfl fun M hM => ?_
 simp only [pop, St.eval, constSlot, upd_at, Nat.reduceEqDiff, if_true, if_false, popFieldAddr, fieldOf, List.drop_succ_cons, List.drop_zero, List.getElem?_toArray, List.getElem?_cons_zero, List.getElem?_cons_succ, Tryz.underlying23, sz3, featPV]
 refine ⟨⟨_, rfl⟩, hM _ _ ?_⟩
 clear hM M
 refine pops_to rfl fun M hM => ?_
 simp only [pop, St.eval, constSlot, upd_at, Nat.reduceEqDiff, if_true, if_false, popLoad, loadK, isAggD, List.drop_zero, List.getElem?_toArray, List.getElem?_cons_zero, List.getElem?_cons_succ, Bool.false_eq_true, Tryz.underlying3, sz3, eq_self, true_and, and_true, featPV]
 refine hM _ _ ?_
 clear hM M
 refine pops_to rfl fun M hM => ?_
 simp only [pop, St.eval, constSlot, upd_at, Nat.reduceEqDiff, if_true, if_false, popBin, binK, intK, strK, eqK, eq_self, true_and, and_true, featPV]
 refine hM _ _ ?_
 clear hM M
 refine pops_mv (.inl rfl) rfl (by simp only [St.eval, upd_at, Nat.reduceEqDiff, if_true, if_false, featPV] <;> rfl) ?_
 apply pops_or0 4 14 18 [15, 16, 17] (by simp only [upd_at, Nat.reduceEqDiff, if_true, if_false, featPV] <;> rfl)
 ·skip
  intro g14_0 J6 hJ6
  simp only [List.take_succ_cons, List.take_zero]
  simp only [anyAt_cons, anyAt_nil] at hJ6
  refine pops_do rfl rfl (by simp only [upd_at, Nat.reduceEqDiff, if_true, if_false, featPV, g14_0]) fun M hM => ?_
  simp only [pop, St.eval, constSlot, upd_at, Nat.reduceEqDiff, if_true, if_false, popFieldAddr, fieldOf, List.drop_succ_cons, List.drop_zero, List.getElem?_toArray, List.getElem?_cons_zero, List.getElem?_cons_succ, Tryz.underlying23, sz3, featPV, g14_0]
  refine ⟨⟨_, rfl⟩, hM _ _ ?_⟩
  clear hM M
  refine pops_do rfl rfl (by simp only [upd_at, Nat.reduceEqDiff, if_true, if_false, featPV, g14_0]) fun M hM => ?_
  simp only [pop, St.eval, constSlot, upd_at, Nat.reduceEqDiff, if_true, if_false, popLoad, loadK, isAggD, List.drop_zero, List.getElem?_toArray, List.getElem?_cons_zero, List.getElem?_cons_succ, Bool.false_eq_true, Tryz.underlying3, sz3, eq_self, true_and, and_true, featPV, g14_0]
  refine hM _ _ ?_
  clear hM M
  refine pops_do rfl rfl (by simp only [upd_at, Nat.reduceEqDiff, if_true, if_false, featPV, g14_0]) fun M hM => ?_
  simp only [pop, St.eval, constSlot, upd_at, Nat.reduceEqDiff, if_true, if_false, popBin, binK, intK, strK, eqK, eq_self, true_and, and_true, featPV, g14_0]
  refine hM _ _ ?_
  clear hM M
  refine pops_to rfl fun M hM => ?_
  simp only [pop, St.eval, constSlot, upd_at, Nat.reduceEqDiff, if_true, if_false, popIf, true_implies, false_implies, Bool.true_eq_false, Bool.false_eq_true, reduceCtorEq, true_and, and_true, featPV, g14_0]
  refine hM _ _ ?_
  clear hM M
  exact pops_done (hJ6 _ (wk_same (wk_any ((wk_any ((wk_any (Wk.refl _ _))))))))
 ·skip
  intro g14_0 J6 hJ6
  simp only [List.take_succ_cons, List.take_zero]
  simp only [anyAt_cons, anyAt_nil] at hJ6
  refine pops_off (b := true) rfl rfl (by simp only [upd_at, Nat.reduceEqDiff, if_true, if_false, featPV, g14_0]) (by decide) ?_
  refine pops_off (b := true) rfl rfl (by simp only [upd_at, Nat.reduceEqDiff, if_true, if_false, featPV, g14_0]) (by decide) ?_
  refine pops_off (b := true) rfl rfl (by simp only [upd_at, Nat.reduceEqDiff, if_true, if_false, featPV, g14_0]) (by decide) ?_
  refine pops_to rfl fun M hM => ?_
  simp only [pop, St.eval, constSlot, upd_at, Nat.reduceEqDiff, if_true, if_false, popIf, true_implies, false_implies, Bool.true_eq_false, Bool.false_eq_true, reduceCtorEq, true_and, and_true, featPV, g14_0]
  refine hM _ _ ?_
  clear hM M
  exact pops_done (hJ6 _ (wk_same (wk_any ((wk_any ((wk_any (Wk.refl _ _))))))))
 simp only [List.drop_succ_cons, List.drop_zero, anyAt_cons, anyAt_nil]
 refine pops_mv (.inl rfl) rfl (by simp only [St.eval, upd_at, Nat.reduceEqDiff, if_true, if_false, featPV] <;> rfl) ?_
 apply pops_or0 11 19 30 [20, 21, 22, 23, 24, 25, 26, 27, 28, 29] (by simp only [upd_at, Nat.reduceEqDiff, if_true, if_false, featPV] <;> rfl)
 ·skip
  intro g19_0 J7 hJ7
  simp only [List.take_succ_cons, List.take_zero]
  simp only [anyAt_cons, anyAt_nil] at hJ7
  refine pops_do rfl rfl (by simp only [upd_at, Nat.reduceEqDiff, if_true, if_false, featPV, g19_0]) fun M hM => ?_
  simp only [pop, St.eval, constSlot, upd_at, Nat.reduceEqDiff, if_true, if_false, popFieldAddr, fieldOf, List.drop_succ_cons, List.drop_zero, List.getElem?_toArray, List.getElem?_cons_zero, List.getElem?_cons_succ, Tryz.underlying23, sz3, featPV, g19_0]
  refine ⟨⟨_, rfl⟩, hM _ _ ?_⟩
  clear hM M
  refine pops_do rfl rfl (by simp only [upd_at, Nat.reduceEqDiff, if_true, if_false, featPV, g19_0]) fun M hM => ?_
  simp only [pop, St.eval, constSlot, upd_at, Nat.reduceEqDiff, if_true, if_false, popLoad, loadK, isAggD, List.drop_zero, List.getElem?_toArray, List.getElem?_cons_zero, List.getElem?_cons_succ, Bool.false_eq_true, Tryz.underlying3, sz3, eq_self, true_and, and_true, featPV, g19_0]
  refine hM _ _ ?_
  clear hM M
  refine pops_do rfl rfl (by simp only [upd_at, Nat.reduceEqDiff, if_true, if_false, featPV, g19_0]) fun M hM => ?_
  simp only [pop, St.eval, constSlot, upd_at, Nat.reduceEqDiff, if_true, if_false, popBin, binK, intK, strK, eqK, eq_self, true_and, and_true, featPV, g19_0]
  refine hM _ _ ?_
  clear hM M
  refine pops_do rfl rfl (by simp only [upd_at, Nat.reduceEqDiff, if_true, if_false, featPV, g19_0]) fun M hM => ?_
  simp only [pop, St.eval, constSlot, upd_at, Nat.reduceEqDiff, if_true, if_false, popBin, binK, intK, strK, eqK, Tryz.underlying3, isPtr, eq_self, true_and, and_true, featPV, g19_0]
  refine hM _ _ ?_
  clear hM M
  refine pops_mvg (.inl rfl) rfl rfl (by simp only [upd_at, Nat.reduceEqDiff, if_true, if_false, featPV, g19_0]) (by simp only [St.eval, upd_at, Nat.reduceEqDiff, if_true, if_false, featPV, g19_0] <;> rfl) ?_
  apply pops_and0 5 24 29 [25, 26, 27, 28] (by simp only [upd_at, Nat.reduceEqDiff, if_true, if_false, featPV, g19_0] <;> rfl)
  ·skip
   intro g24_1 J8 hJ8
   simp only [List.take_succ_cons, List.take_zero]
   simp only [anyAt_cons, anyAt_nil] at hJ8
   refine pops_do rfl rfl (by simp only [upd_at, Nat.reduceEqDiff, if_true, if_false, featPV, g19_0, g24_1]) fun M hM => ?_
   simp only [pop, St.eval, constSlot, upd_at, Nat.reduceEqDiff, if_true, if_false, popFieldAddr, fieldOf, List.drop_succ_cons, List.drop_zero, List.getElem?_toArray, List.getElem?_cons_zero, List.getElem?_cons_succ, Tryz.underlying23, sz3, featPV, g19_0, g24_1]
   refine ⟨⟨_, rfl⟩, hM _ _ ?_⟩
   clear hM M
   refine pops_do rfl rfl (by simp only [upd_at, Nat.reduceEqDiff, if_true, if_false, featPV, g19_0, g24_1]) fun M hM => ?_
   simp only [pop, St.eval, constSlot, upd_at, Nat.reduceEqDiff, if_true, if_false, popLoad, loadK, isAggD, List.drop_zero, List.getElem?_toArray, List.getElem?_cons_zero, List.getElem?_cons_succ, Bool.false_eq_true, Tryz.underlying3, sz3, eq_self, true_and, and_true, featPV, g19_0, g24_1]
   refine hM _ _ ?_
   clear hM M
   refine pops_do rfl rfl (by simp only [upd_at, Nat.reduceEqDiff, if_true, if_false, featPV, g19_0, g24_1]) fun M hM => ?_
   simp only [pop, St.eval, constSlot, upd_at, Nat.reduceEqDiff, if_true, if_false, popBin, binK, intK, strK, eqK, eq_self, true_and, and_true, featPV, g19_0, g24_1]
   refine hM _ _ ?_
   clear hM M
   refine pops_do rfl rfl (by simp only [upd_at, Nat.reduceEqDiff, if_true, if_false, featPV, g19_0, g24_1]) fun M hM => ?_
   simp only [pop, St.eval, constSlot, upd_at, Nat.reduceEqDiff, if_true, if_false, popBin, binK, intK, strK, eqK, Tryz.underlying3, isPtr, eq_self, true_and, and_true, featPV, g19_0, g24_1]
   refine hM _ _ ?_
   clear hM M
   refine pops_do rfl rfl (by simp only [upd_at, Nat.reduceEqDiff, if_true, if_false, featPV, g19_0, g24_1]) fun M hM => ?_
   simp only [pop, St.eval, constSlot, upd_at, Nat.reduceEqDiff, if_true, if_false, popIf, true_implies, false_implies, Bool.true_eq_false, Bool.false_eq_true, reduceCtorEq, true_and, and_true, featPV, g19_0, g24_1]
   refine hM _ _ ?_
   clear hM M
   exact pops_done (hJ8 _ (wk_same (wk_any ((wk_any ((wk_any ((wk_any (Wk.refl _ _))))))))))
  ·skip
   intro g24_1 J8 hJ8
   simp only [List.take_succ_cons, List.take_zero]
   simp only [anyAt_cons, anyAt_nil] at hJ8
   refine pops_off (b := false) rfl rfl (by simp only [upd_at, Nat.reduceEqDiff, if_true, if_false, featPV, g19_0, g24_1]) (by decide) ?_
   refine pops_off (b := false) rfl rfl (by simp only [upd_at, Nat.reduceEqDiff, if_true, if_false, featPV, g19_0, g24_1]) (by decide) ?_
   refine pops_off (b := false) rfl rfl (by simp only [upd_at, Nat.reduceEqDiff, if_true, if_false, featPV, g19_0, g24_1]) (by decide) ?_
   refine pops_off (b := false) rfl rfl (by simp only [upd_at, Nat.reduceEqDiff, if_true, if_false, featPV, g19_0, g24_1]) (by decide) ?_
   refine pops_do rfl rfl (by simp only [upd_at, Nat.reduceEqDiff, if_true, if_false, featPV, g19_0, g24_1]) fun M hM => ?_
   simp only [pop, St.eval, constSlot, upd_at, Nat.reduceEqDiff, if_true, if_false, popIf, true_implies, false_implies, Bool.true_eq_false, Bool.false_eq_true, reduceCtorEq, true_and, and_true, featPV, g19_0, g24_1]
   refine hM _ _ ?_
   clear hM M
   exact pops_done (hJ8 _ (wk_same (wk_any ((wk_any ((wk_any ((wk_any (Wk.refl _ _))))))))))
  simp only [List.drop_succ_cons, List.drop_zero, anyAt_cons, anyAt_nil]
  refine pops_to rfl fun M hM => ?_
  simp only [pop, St.eval, constSlot, upd_at, Nat.reduceEqDiff, if_true, if_false, popIf, true_implies, false_implies, Bool.true_eq_false, Bool.false_eq_true, reduceCtorEq, true_and, and_true, featPV, g19_0]
  refine hM _ _ ?_
  clear hM M
  exact pops_done (hJ7 _ (wk_same (wk_any ((wk_any ((wk_any ((wk_any ((wk_any ((wk_any ((wk_any ((wk_any ((wk_any ((wk_any (Wk.refl _ _))))))))))))))))))))))
 ·skip
  intro g19_0 J7 hJ7
  simp only [List.take_succ_cons, List.take_zero]
  simp only [anyAt_cons, anyAt_nil] at hJ7
  refine pops_off (b := true) rfl rfl (by simp only [upd_at, Nat.reduceEqDiff, if_true, if_false, featPV, g19_0]) (by decide) ?_
  refine pops_off (b := true) rfl rfl (by simp only [upd_at, Nat.reduceEqDiff, if_true, if_false, featPV, g19_0]) (by decide) ?_
  refine pops_off (b := true) rfl rfl (by simp only [upd_at, Nat.reduceEqDiff, if_true, if_false, featPV, g19_0]) (by decide) ?_
  refine pops_off (b := true) rfl rfl (by simp only [upd_at, Nat.reduceEqDiff, if_true, if_false, featPV, g19_0]) (by decide) ?_
  refine pops_off (b := true) rfl rfl (by simp only [upd_at, Nat.reduceEqDiff, if_true, if_false, featPV, g19_0]) (by decide) ?_
  refine pops_off0 rfl rfl (by simp only [upd_at, Nat.reduceEqDiff, if_true, if_false, featPV, g19_0]) ?_
  refine pops_off0 rfl rfl (by simp only [upd_at, Nat.reduceEqDiff, if_true, if_false, featPV, g19_0]) ?_
  refine pops_off0 rfl rfl (by simp only [upd_at, Nat.reduceEqDiff, if_true, if_false, featPV, g19_0]) ?_
  refine pops_off0 rfl rfl (by simp only [upd_at, Nat.reduceEqDiff, if_true, if_false, featPV, g19_0]) ?_
  refine pops_off (b := true) rfl rfl (by simp only [upd_at, Nat.reduceEqDiff, if_true, if_false, featPV, g19_0]) (by decide) ?_
  refine pops_to rfl fun M hM => ?_
  simp only [pop, St.eval, constSlot, upd_at, Nat.reduceEqDiff, if_true, if_false, popIf, true_implies, false_implies, Bool.true_eq_false, Bool.false_eq_true, reduceCtorEq, true_and, and_true, featPV, g19_0]
  refine hM _ _ ?_
  clear hM M
  exact pops_done (hJ7 _ (wk_same (wk_any ((wk_any ((wk_any ((wk_any ((wk_any ((wk_any ((wk_any ((wk_any ((wk_any ((wk_any (Wk.refl _ _))))))))))))))))))))))
 simp only [List.drop_succ_cons, List.drop_zero, anyAt_cons, anyAt_nil]
 refine pops_mv (.inl rfl) rfl (by simp only [St.eval, upd_at, Nat.reduceEqDiff, if_true, if_false, featPV] <;> rfl) ?_
 apply pops_or0 11 31 42 [32, 33, 34, 35, 36, 37, 38, 39, 40, 41] (by simp only [upd_at, Nat.reduceEqDiff, if_true, if_false, featPV] <;> rfl)
 ·skip
  intro g31_0 J9 hJ9
  simp only [List.take_succ_cons, List.take_zero]
  simp only [anyAt_cons, anyAt_nil] at hJ9
  refine pops_do rfl rfl (by simp only [upd_at, Nat.reduceEqDiff, if_true, if_false, featPV, g31_0]) fun M hM => ?_
  simp only [pop, St.eval, constSlot, upd_at, Nat.reduceEqDiff, if_true, if_false, popFieldAddr, fieldOf, List.drop_succ_cons, List.drop_zero, List.getElem?_toArray, List.getElem?_cons_zero, List.getElem?_cons_succ, Tryz.underlying23, sz3, featPV, g31_0]
  refine ⟨⟨_, rfl⟩, hM _ _ ?_⟩
  clear hM M
  refine pops_do rfl rfl (by simp only [upd_at, Nat.reduceEqDiff, if_true, if_false, featPV, g31_0]) fun M hM => ?_
  simp only [pop, St.eval, constSlot, upd_at, Nat.reduceEqDiff, if_true, if_false, popLoad, loadK, isAggD, List.drop_zero, List.getElem?_toArray, List.getElem?_cons_zero, List.getElem?_cons_succ, Bool.false_eq_true, Tryz.underlying3, sz3, eq_self, true_and, and_true, featPV, g31_0]
  refine hM _ _ ?_
  clear hM M
  refine pops_do rfl rfl (by simp only [upd_at, Nat.reduceEqDiff, if_true, if_false, featPV, g31_0]) fun M hM => ?_
  simp only [pop, St.eval, constSlot, upd_at, Nat.reduceEqDiff, if_true, if_false, popBin, binK, intK, strK, eqK, eq_self, true_and, and_true, featPV, g31_0]
  refine hM _ _ ?_
  clear hM M
  refine pops_do rfl rfl (by simp only [upd_at, Nat.reduceEqDiff, if_true, if_false, featPV, g31_0]) fun M hM => ?_
  simp only [pop, St.eval, constSlot, upd_at, Nat.reduceEqDiff, if_true, if_false, popBin, binK, intK, strK, eqK, Tryz.underlying3, isPtr, eq_self, true_and, and_true, featPV, g31_0]
  refine hM _ _ ?_
  clear hM M
  refine pops_mvg (.inl rfl) rfl rfl (by simp only [upd_at, Nat.reduceEqDiff, if_true, if_false, featPV, g31_0]) (by simp only [St.eval, upd_at, Nat.reduceEqDiff, if_true, if_false, featPV, g31_0] <;> rfl) ?_
  apply pops_and0 5 36 41 [37, 38, 39, 40] (by simp only [upd_at, Nat.reduceEqDiff, if_true, if_false, featPV, g31_0] <;> rfl)
  ·skip
   intro g36_1 J10 hJ10
   simp only [List.take_succ_cons, List.take_zero]
   simp only [anyAt_cons, anyAt_nil] at hJ10
   refine pops_do rfl rfl (by simp only [upd_at, Nat.reduceEqDiff, if_true, if_false, featPV, g31_0, g36_1]) fun M hM => ?_
   simp only [pop, St.eval, constSlot, upd_at, Nat.reduceEqDiff, if_true, if_false, popFieldAddr, fieldOf, List.drop_succ_cons, List.drop_zero, List.getElem?_toArray, List.getElem?_cons_zero, List.getElem?_cons_succ, Tryz.underlying23, sz3, featPV, g31_0, g36_1]
   refine ⟨⟨_, rfl⟩, hM _ _ ?_⟩
   clear hM M
   refine pops_do rfl rfl (by simp only [upd_at, Nat.reduceEqDiff, if_true, if_false, featPV, g31_0, g36_1]) fun M hM => ?_
   simp only [pop, St.eval, constSlot, upd_at, Nat.reduceEqDiff, if_true, if_false, popLoad, loadK, isAggD, List.drop_zero, List.getElem?_toArray, List.getElem?_cons_zero, List.getElem?_cons_succ, Bool.false_eq_true, Tryz.underlying3, sz3, eq_self, true_and, and_true, featPV, g31_0, g36_1]
   refine hM _ _ ?_
   clear hM M
   refine pops_do rfl rfl (by simp only [upd_at, Nat.reduceEqDiff, if_true, if_false, featPV, g31_0, g36_1]) fun M hM => ?_
   simp only [pop, St.eval, constSlot, upd_at, Nat.reduceEqDiff, if_true, if_false, popBin, binK, intK, strK, eqK, eq_self, true_and, and_true, featPV, g31_0, g36_1]
   refine hM _ _ ?_
   clear hM M
   refine pops_do rfl rfl (by simp only [upd_at, Nat.reduceEqDiff, if_true, if_false, featPV, g31_0, g36_1]) fun M hM => ?_
   simp only [pop, St.eval, constSlot, upd_at, Nat.reduceEqDiff, if_true, if_false, popBin, binK, intK, strK, eqK, Tryz.underlying3, isPtr, eq_self, true_and, and_true, featPV, g31_0, g36_1]
   refine hM _ _ ?_
   clear hM M
   refine pops_do rfl rfl (by simp only [upd_at, Nat.reduceEqDiff, if_true, if_false, featPV, g31_0, g36_1]) fun M hM => ?_
   simp only [pop, St.eval, constSlot, upd_at, Nat.reduceEqDiff, if_true, if_false, popIf, true_implies, false_implies, Bool.true_eq_false, Bool.false_eq_true, reduceCtorEq, true_and, and_true, featPV, g31_0, g36_1]
   refine hM _ _ ?_
   clear hM M
   exact pops_done (hJ10 _ (wk_same (wk_any ((wk_any ((wk_any ((wk_any (Wk.refl _ _))))))))))
  ·skip
   intro g36_1 J10 hJ10
   simp only [List.take_succ_cons, List.take_zero]
   simp only [anyAt_cons, anyAt_nil] at hJ10
   refine pops_off (b := false) rfl rfl (by simp only [upd_at, Nat.reduceEqDiff, if_true, if_false, featPV, g31_0, g36_1]) (by decide) ?_
   refine pops_off (b := false) rfl rfl (by simp only [upd_at, Nat.reduceEqDiff, if_true, if_false, featPV, g31_0, g36_1]) (by decide) ?_
   refine pops_off (b := false) rfl rfl (by simp only [upd_at, Nat.reduceEqDiff, if_true, if_false, featPV, g31_0, g36_1]) (by decide) ?_
   refine pops_off (b := false) rfl rfl (by simp only [upd_at, Nat.reduceEqDiff, if_true, if_false, featPV, g31_0, g36_1]) (by decide) ?_
   refine pops_do rfl rfl (by simp only [upd_at, Nat.reduceEqDiff, if_true, if_false, featPV, g31_0, g36_1]) fun M hM => ?_
   simp only [pop, St.eval, constSlot, upd_at, Nat.reduceEqDiff, if_true, if_false, popIf, true_implies, false_implies, Bool.true_eq_false, Bool.false_eq_true, reduceCtorEq, true_and, and_true, featPV, g31_0, g36_1]
   refine hM _ _ ?_
   clear hM M
   exact pops_done (hJ10 _ (wk_same (wk_any ((wk_any ((wk_any ((wk_any (Wk.refl _ _))))))))))
  simp only [List.drop_succ_cons, List.drop_zero, anyAt_cons, anyAt_nil]
  refine pops_to rfl fun M hM => ?_
  simp only [pop, St.eval, constSlot, upd_at, Nat.reduceEqDiff, if_true, if_false, popIf, true_implies, false_implies, Bool.true_eq_false, Bool.false_eq_true, reduceCtorEq, true_and, and_true, featPV, g31_0]
  refine hM _ _ ?_
  clear hM M
  exact pops_done (hJ9 _ (wk_same (wk_any ((wk_any ((wk_any ((wk_any ((wk_any ((wk_any ((wk_any ((wk_any ((wk_any ((wk_any (Wk.refl _ _))))))))))))))))))))))
 ·skip
  intro g31_0 J9 hJ9
  simp only [List.take_succ_cons, List.take_zero]
  simp only [anyAt_cons, anyAt_nil] at hJ9
  refine pops_off (b := true) rfl rfl (by simp only [upd_at, Nat.reduceEqDiff, if_true, if_false, featPV, g31_0]) (by decide) ?_
  refine pops_off (b := true) rfl rfl (by simp only [upd_at, Nat.reduceEqDiff, if_true, if_false, featPV, g31_0]) (by decide) ?_
  refine pops_off (b := true) rfl rfl (by simp only [upd_at, Nat.reduceEqDiff, if_true, if_false, featPV, g31_0]) (by decide) ?_
  refine pops_off (b := true) rfl rfl (by simp only [upd_at, Nat.reduceEqDiff, if_true, if_false, featPV, g31_0]) (by decide) ?_
  refine pops_off (b := true) rfl rfl (by simp only [upd_at, Nat.reduceEqDiff, if_true, if_false, featPV, g31_0]) (by decide) ?_
  refine pops_off0 rfl rfl (by simp only [upd_at, Nat.reduceEqDiff, if_true, if_false, featPV, g31_0]) ?_
  refine pops_off0 rfl rfl (by simp only [upd_at, Nat.reduceEqDiff, if_true, if_false, featPV, g31_0]) ?_
  refine pops_off0 rfl rfl (by simp only [upd_at, Nat.reduceEqDiff, if_true, if_false, featPV, g31_0]) ?_
  refine pops_off0 rfl rfl (by simp only [upd_at, Nat.reduceEqDiff, if_true, if_false, featPV, g31_0]) ?_
  refine pops_off (b := true) rfl rfl (by simp only [upd_at, Nat.reduceEqDiff, if_true, if_false, featPV, g31_0]) (by decide) ?_
  refine pops_to rfl fun M hM => ?_
  simp only [pop, St.eval, constSlot, upd_at, Nat.reduceEqDiff, if_true, if_false, popIf, true_implies, false_implies, Bool.true_eq_false, Bool.false_eq_true, reduceCtorEq, true_and, and_true, featPV, g31_0]
  refine hM _ _ ?_
  clear hM M
  exact pops_done (hJ9 _ (wk_same (wk_any ((wk_any ((wk_any ((wk_any ((wk_any ((wk_any ((wk_any ((wk_any ((wk_any ((wk_any (Wk.refl _ _))))))))))))))))))))))
 simp only [List.drop_succ_cons, List.drop_zero, anyAt_cons, anyAt_nil]
 refine pops_done (hR5 _ ?_)
 clear hR5 R5
 try simp only [thenK, scopeK]
 refine hN4 _ ?_
 clear hN4 N4
 refine pwp_cond (by simp only [St.eval, upd_at, Nat.reduceEqDiff, if_true, if_false, featPV] <;> rfl) (fun c42 => ?_) (fun c42 => ?_)
 ·skip
  have c42' : formFB x = true := by rw [← form_ref x]; exact c42
  have he := featE_6 (x := x) (by rw [c42']; rfl)
  refine pwp_then fun N11 hN11 => ?_
  refine pwp_reg fun R12 hR12 => ?_
  refine pops_mv (.inr rfl) rfl (by simp only [St.eval, constSlot] <;> rfl) ?_
  refine pops_done (hR12 _ ?_)
  clear hR12 R12
  try simp only [thenK, scopeK]
  refine hN11 _ ?_
  clear hN11 N11
  refine pwp_ret ?_
  simp only [thenK, blockK, scopeK, bodyK]
  clear hN3 N3
  refine ⟨_, rfl, endFun (Same.refl _) ?_⟩
  try simp only [upd_at, Nat.reduceEqDiff, if_true, if_false, featPV]
  all_goals
   rw [he]
 ·skip
  have c42' : formFB x = false := by rw [← form_ref x]; exact c42
  refine pwp_skip ?_
  try simp only [thenK, scopeK]
  refine hN3 _ ?_
  clear hN3 N3
  refine pwp_then fun N13 hN13 => ?_
  refine pwp_then fun N14 hN14 => ?_
  refine pwp_reg fun R15 hR15 => ?_
  refine pops_to rfl fun M hM => ?_
  simp only [pop, St.eval, constSlot, upd_at, Nat.reduceEqDiff, if_true, if_false, popFieldAddr, fieldOf, List.drop_succ_cons, List.drop_zero, List.getElem?_toArray, List.getElem?_cons_zero, List.getElem?_cons_succ, Tryz.underlying23, sz9, featPV]
  refine ⟨⟨_, rfl⟩, hM _ _ ?_⟩
  clear hM M
  refine pops_to rfl fun M hM => ?_
  simp only [pop, St.eval, constSlot, upd_at, Nat.reduceEqDiff, if_true, if_false, popLoad, loadK, isAggD, List.drop_zero, List.getElem?_toArray, List.getElem?_cons_zero, List.getElem?_cons_succ, Bool.false_eq_true, Tryz.underlying9, sz9, eq_self, true_and, and_true, featPV]
  refine hM _ _ ?_
  clear hM M
  refine pops_to rfl fun M hM => ?_
  simp only [pop, St.eval, constSlot, upd_at, Nat.reduceEqDiff, if_true, if_false, popCall, List.toList_toArray, List.map_cons, List.map_nil, popBuiltin, popLen, lenOfSlot, List.length_map, Tryz.underlying9, eq_self, true_and, and_true, str_list, str_size, str_app, str_cut, str_get, featPV]
  refine hM _ _ ?_
  clear hM M
  refine pops_mv (.inl rfl) rfl (by simp only [St.eval, constSlot] <;> rfl) ?_
  refine pops_done (hR15 _ ?_)
  clear hR15 R15
  try simp only [thenK, scopeK]
  refine hN14 _ ?_
  clear hN14 N14
  refine pwp_block ?_
  refine pwp_loop (fun k σ => ∃ (j : Nat), (k = s.length - j) ∧ (j ≤ s.length) ∧ (∀ m < j, ∀ c, s[m]? = some c → (fbadB c || (s.drop (m + 1)).contains c) = false) ∧ (Same h σ.hp) ∧ (σ.env 2 = .sv (.one (.rop (featPV x)))) ∧ (σ.env 1 = .sv (.one (.ro true 1 KL))) ∧ (σ.env 45 = .sv (.one (pint (s.length : Nat)))) ∧ (σ.env 46 = .sv (.one (pint (j : Nat))))) _ ⟨_, .refl _ _, 0, rfl, ?_⟩ ?_
  · exact ⟨Nat.zero_le _, by intro m hm; omega, (Same.refl _), by simp only [upd_at, Nat.reduceEqDiff, if_true, if_false, featPV], by simp only [upd_at, Nat.reduceEqDiff, if_true, if_false, featPV], by simp only [upd_at, Nat.reduceEqDiff, if_true, if_false, str_size, hs], by simp only [upd_at, Nat.reduceEqDiff, if_true, if_false]; rfl⟩
  ·rintro k ⟨e, hp0⟩ ⟨j, hk0, hx0_0, hx0_1, sl0, e0_2, e0_1, e0_45, e0_46⟩
   simp only at sl0 e0_2 e0_1 e0_45 e0_46
   refine pwp_then fun N16 hN16 => ?_
   refine pwp_reg fun R17 hR17 => ?_
   refine pops_to rfl fun M hM => ?_
   simp only [pop, St.eval, constSlot, upd_at, Nat.reduceEqDiff, if_true, if_false, popBin, binK, intK, strK, eqK, eq_self, true_and, and_true, e0_2, e0_1, e0_45, e0_46, hfp]
   refine hM _ _ ?_
   clear hM M
   refine pops_done (hR17 _ ?_)
   clear hR17 R17
   try simp only [thenK, scopeK]
   refine hN16 _ ?_
   clear hN16 N16
   refine pwp_then fun N18 hN18 => ?_
   refine pwp_cond (by simp only [St.eval, upd_at, Nat.reduceEqDiff, if_true, if_false, e0_2, e0_1, e0_45, e0_46, hfp] <;> rfl) (fun c47 => ?_) (fun c47 => ?_)
   ·skip
    have hj : j < s.length := by have := of_decide_eq_true c47; omega
    obtain ⟨c, hx⟩ : ∃ c, s[j]? = some c := ⟨_, List.getElem?_eq_getElem hj⟩
    have hwj := wrap_succ (i := j) (by omega)
    refine pwp_skip ?_
    try simp only [thenK, scopeK]
    refine hN18 _ ?_
    clear hN18 N18
    refine pwp_then fun N19 hN19 => ?_
    refine pwp_block ?_
    refine pwp_then fun N20 hN20 => ?_
    refine pwp_reg fun R21 hR21 => ?_
    refine pops_mv (.inl rfl) rfl (by simp only [St.eval, upd_at, Nat.reduceEqDiff, if_true, if_false, e0_2, e0_1, e0_45, e0_46, hfp] <;> rfl) ?_
    refine pops_mv (.inr rfl) rfl (by simp only [St.eval, upd_at, Nat.reduceEqDiff, if_true, if_false, e0_2, e0_1, e0_45, e0_46, hfp] <;> rfl) ?_
    refine pops_done (hR21 _ ?_)
    clear hR21 R21
    try simp only [thenK, scopeK]
    refine hN20 _ ?_
    clear hN20 N20
    refine pwp_then fun N22 hN22 => ?_
    refine pwp_reg fun R23 hR23 => ?_
    refine pops_to rfl fun M hM => ?_
    simp only [pop, St.eval, constSlot, upd_at, Nat.reduceEqDiff, if_true, if_false, popFieldAddr, fieldOf, List.drop_succ_cons, List.drop_zero, List.getElem?_toArray, List.getElem?_cons_zero, List.getElem?_cons_succ, Tryz.underlying23, sz9, e0_2, e0_1, e0_45, e0_46, hfp]
    refine ⟨⟨_, rfl⟩, hM _ _ ?_⟩
    clear hM M
    refine pops_to rfl fun M hM => ?_
    simp only [pop, St.eval, constSlot, upd_at, Nat.reduceEqDiff, if_true, if_false, popLoad, loadK, isAggD, List.drop_zero, List.getElem?_toArray, List.getElem?_cons_zero, List.getElem?_cons_succ, Bool.false_eq_true, Tryz.underlying9, sz9, eq_self, true_and, and_true, e0_2, e0_1, e0_45, e0_46, hfp]
    refine hM _ _ ?_
    clear hM M
    refine pops_mv (.inl rfl) rfl (by simp only [St.eval, upd_at, Nat.reduceEqDiff, if_true, if_false, e0_2, e0_1, e0_45, e0_46, hfp] <;> rfl) ?_
    refine pops_to rfl fun M hM => ?_
    simp only [pop, St.eval, constSlot, upd_at, Nat.reduceEqDiff, if_true, if_false, popIndex, partK, Tryz.underlying9, eq_self, true_and, and_true, str_list, str_size, str_app, str_cut, str_get, e0_2, e0_1, e0_45, e0_46, hfp, hx, Int.toNat_natCast]
    refine ⟨Int.natCast_nonneg _, hM _ _ ?_⟩
    clear hM M
    refine pops_mv (.inr rfl) rfl (by simp only [St.eval, upd_at, Nat.reduceEqDiff, if_true, if_false, e0_2, e0_1, e0_45, e0_46, hfp] <;> rfl) ?_
    refine pops_done (hR23 _ ?_)
    clear hR23 R23
    try simp only [thenK, scopeK]
    refine hN22 _ ?_
    clear hN22 N22
    refine pwp_then fun N24 hN24 => ?_
    refine pwp_reg fun R25 hR25 => ?_
    refine pops_mv (.inl rfl) rfl (by simp only [St.eval, upd_at, Nat.reduceEqDiff, if_true, if_false, e0_2, e0_1, e0_45, e0_46, hfp] <;> rfl) ?_
    refine pops_to rfl fun M hM => ?_
    simp only [pop, St.eval, constSlot, upd_at, Nat.reduceEqDiff, if_true, if_false, popBin, binK, intK, strK, eqK, Tryz.underlying5, isPtr, eq_self, true_and, and_true, e0_2, e0_1, e0_45, e0_46, hfp]
    refine hM _ _ ?_
    clear hM M
    refine pops_mv (.inl rfl) rfl (by simp only [St.eval, upd_at, Nat.reduceEqDiff, if_true, if_false, e0_2, e0_1, e0_45, e0_46, hfp] <;> rfl) ?_
    apply pops_or 3 55 58 [56, 57] (by simp only [upd_at, Nat.reduceEqDiff, if_true, if_false, e0_2, e0_1, e0_45, e0_46, hfp] <;> rfl)
    ·skip
     intro g55_0 J26 hJ26
     simp only [List.take_succ_cons, List.take_zero]
     simp only [anyAt_cons, anyAt_nil] at hJ26
     refine pops_mvg (.inl rfl) rfl rfl (by simp only [upd_at, Nat.reduceEqDiff, if_true, if_false, e0_2, e0_1, e0_45, e0_46, hfp, g55_0]) (by simp only [St.eval, upd_at, Nat.reduceEqDiff, if_true, if_false, e0_2, e0_1, e0_45, e0_46, hfp, g55_0] <;> rfl) ?_
     refine pops_do rfl rfl (by simp only [upd_at, Nat.reduceEqDiff, if_true, if_false, e0_2, e0_1, e0_45, e0_46, hfp, g55_0]) fun M hM => ?_
     simp only [pop, St.eval, constSlot, upd_at, Nat.reduceEqDiff, if_true, if_false, popCall, List.toList_toArray, List.map_cons, List.map_nil, svs, List.mapM_cons, List.mapM_nil, Option.bind_eq_bind, Option.bind_some, Option.pure_def, List.append_nil, List.cons_append, List.nil_append, str_size, e0_2, e0_1, e0_45, e0_46, hfp, g55_0]
     refine PFun.use (alnum_fun W0 c) fun h1 s1 => hM _ _ ?_
     replace s1 := Same.trans (Same.refl _) s1
     clear hM M
     refine pops_to rfl fun M hM => ?_
     simp only [pop, St.eval, constSlot, upd_at, Nat.reduceEqDiff, if_true, if_false, popIf, true_implies, false_implies, Bool.true_eq_false, Bool.false_eq_true, reduceCtorEq, true_and, and_true, e0_2, e0_1, e0_45, e0_46, hfp, g55_0]
     refine hM _ _ ?_
     clear hM M
     exact pops_done (hJ26 _ _ s1 (wk_same (wk_any ((wk_any (Wk.refl _ _))))))
    ·skip
     intro g55_0 J26 hJ26
     simp only [List.take_succ_cons, List.take_zero]
     simp only [anyAt_cons, anyAt_nil] at hJ26
     refine pops_off (b := true) rfl rfl (by simp only [upd_at, Nat.reduceEqDiff, if_true, if_false, e0_2, e0_1, e0_45, e0_46, hfp, g55_0]) (by decide) ?_
     refine pops_off (b := true) rfl rfl (by simp only [upd_at, Nat.reduceEqDiff, if_true, if_false, e0_2, e0_1, e0_45, e0_46, hfp, g55_0]) (by decide) ?_
     refine pops_to rfl fun M hM => ?_
     simp only [pop, St.eval, constSlot, upd_at, Nat.reduceEqDiff, if_true, if_false, popIf, true_implies, false_implies, Bool.true_eq_false, Bool.false_eq_true, reduceCtorEq, true_and, and_true, e0_2, e0_1, e0_45, e0_46, hfp, g55_0]
     refine hM _ _ ?_
     clear hM M
     exact pops_done (hJ26 _ _ (Same.refl _) (wk_same (wk_any ((wk_any (Wk.refl _ _))))))
    simp only [List.drop_succ_cons, List.drop_zero, anyAt_cons, anyAt_nil]
    intro hj26 sj26
    replace sj26 := Same.trans sl0 sj26
    refine pops_mv (.inl rfl) rfl (by simp only [St.eval, upd_at, Nat.reduceEqDiff, if_true, if_false, e0_2, e0_1, e0_45, e0_46, hfp] <;> rfl) ?_
    apply pops_or0 3 59 62 [60, 61] (by simp only [upd_at, Nat.reduceEqDiff, if_true, if_false, e0_2, e0_1, e0_45, e0_46, hfp] <;> rfl)
    ·skip
     intro g59_0 J27 hJ27
     simp only [List.take_succ_cons, List.take_zero]
     simp only [anyAt_cons, anyAt_nil] at hJ27
     refine pops_mvg (.inl rfl) rfl rfl (by simp only [upd_at, Nat.reduceEqDiff, if_true, if_false, e0_2, e0_1, e0_45, e0_46, hfp, g59_0]) (by simp only [St.eval, upd_at, Nat.reduceEqDiff, if_true, if_false, e0_2, e0_1, e0_45, e0_46, hfp, g59_0] <;> rfl) ?_
     refine pops_do rfl rfl (by simp only [upd_at, Nat.reduceEqDiff, if_true, if_false, e0_2, e0_1, e0_45, e0_46, hfp, g59_0]) fun M hM => ?_
     simp only [pop, St.eval, constSlot, upd_at, Nat.reduceEqDiff, if_true, if_false, popBin, binK, intK, strK, eqK, eq_self, true_and, and_true, e0_2, e0_1, e0_45, e0_46, hfp, g59_0]
     refine hM _ _ ?_
     clear hM M
     refine pops_to rfl fun M hM => ?_
     simp only [pop, St.eval, constSlot, upd_at, Nat.reduceEqDiff, if_true, if_false, popIf, true_implies, false_implies, Bool.true_eq_false, Bool.false_eq_true, reduceCtorEq, true_and, and_true, e0_2, e0_1, e0_45, e0_46, hfp, g59_0]
     refine hM _ _ ?_
     clear hM M
     exact pops_done (hJ27 _ (wk_same (wk_any ((wk_any (Wk.refl _ _))))))
    ·skip
     intro g59_0 J27 hJ27
     simp only [List.take_succ_cons, List.take_zero]
     simp only [anyAt_cons, anyAt_nil] at hJ27
     refine pops_off (b := true) rfl rfl (by simp only [upd_at, Nat.reduceEqDiff, if_true, if_false, e0_2, e0_1, e0_45, e0_46, hfp, g59_0]) (by decide) ?_
     refine pops_off (b := true) rfl rfl (by simp only [upd_at, Nat.reduceEqDiff, if_true, if_false, e0_2, e0_1, e0_45, e0_46, hfp, g59_0]) (by decide) ?_
     refine pops_to rfl fun M hM => ?_
     simp only [pop, St.eval, constSlot, upd_at, Nat.reduceEqDiff, if_true, if_false, popIf, true_implies, false_implies, Bool.true_eq_false, Bool.false_eq_true, reduceCtorEq, true_and, and_true, e0_2, e0_1, e0_45, e0_46, hfp, g59_0]
     refine hM _ _ ?_
     clear hM M
     exact pops_done (hJ27 _ (wk_same (wk_any ((wk_any (Wk.refl _ _))))))
    simp only [List.drop_succ_cons, List.drop_zero, anyAt_cons, anyAt_nil]
    refine pops_mv (.inl rfl) rfl (by simp only [St.eval, upd_at, Nat.reduceEqDiff, if_true, if_false, e0_2, e0_1, e0_45, e0_46, hfp] <;> rfl) ?_
    apply pops_or 9 63 72 [64, 65, 66, 67, 68, 69, 70, 71] (by simp only [upd_at, Nat.reduceEqDiff, if_true, if_false, e0_2, e0_1, e0_45, e0_46, hfp] <;> rfl)
    ·skip
     intro g63_0 J28 hJ28
     simp only [List.take_succ_cons, List.take_zero]
     simp only [anyAt_cons, anyAt_nil] at hJ28
     refine pops_do rfl rfl (by simp only [upd_at, Nat.reduceEqDiff, if_true, if_false, e0_2, e0_1, e0_45, e0_46, hfp, g63_0]) fun M hM => ?_
     simp only [pop, St.eval, constSlot, upd_at, Nat.reduceEqDiff, if_true, if_false, popFieldAddr, fieldOf, List.drop_succ_cons, List.drop_zero, List.getElem?_toArray, List.getElem?_cons_zero, List.getElem?_cons_succ, Tryz.underlying23, sz9, e0_2, e0_1, e0_45, e0_46, hfp, g63_0]
     refine ⟨⟨_, rfl⟩, hM _ _ ?_⟩
     clear hM M
     refine pops_do rfl rfl (by simp only [upd_at, Nat.reduceEqDiff, if_true, if_false, e0_2, e0_1, e0_45, e0_46, hfp, g63_0]) fun M hM => ?_
     simp only [pop, St.eval, constSlot, upd_at, Nat.reduceEqDiff, if_true, if_false, popLoad, loadK, isAggD, List.drop_zero, List.getElem?_toArray, List.getElem?_cons_zero, List.getElem?_cons_succ, Bool.false_eq_true, Tryz.underlying9, sz9, eq_self, true_and, and_true, e0_2, e0_1, e0_45, e0_46, hfp, g63_0]
     refine hM _ _ ?_
     clear hM M
     refine pops_mvg (.inl rfl) rfl rfl (by simp only [upd_at, Nat.reduceEqDiff, if_true, if_false, e0_2, e0_1, e0_45, e0_46, hfp, g63_0]) (by simp only [St.eval, upd_at, Nat.reduceEqDiff, if_true, if_false, e0_2, e0_1, e0_45, e0_46, hfp, g63_0] <;> rfl) ?_
     refine pops_do rfl rfl (by simp only [upd_at, Nat.reduceEqDiff, if_true, if_false, e0_2, e0_1, e0_45, e0_46, hfp, g63_0]) fun M hM => ?_
     simp only [pop, St.eval, constSlot, upd_at, Nat.reduceEqDiff, if_true, if_false, popBin, binK, intK, strK, eqK, eq_self, true_and, and_true, e0_2, e0_1, e0_45, e0_46, hfp, g63_0, hwj]
     refine hM _ _ ?_
     clear hM M
     refine pops_do rfl rfl (by simp only [upd_at, Nat.reduceEqDiff, if_true, if_false, e0_2, e0_1, e0_45, e0_46, hfp, g63_0]) fun M hM => ?_
     simp only [pop, St.eval, constSlot, upd_at, Nat.reduceEqDiff, if_true, if_false, popSlice, boundOf, Option.map_none, Option.map_some, Tryz.underlying9, eq_self, true_and, and_true, str_list, str_size, str_app, str_cut, str_get, e0_2, e0_1, e0_45, e0_46, hfp, g63_0, Int.toNat_natCast, List.take_length]
     refine ⟨by omega, by omega, by omega, hM _ _ ?_⟩
     clear hM M
     refine pops_mvg (.inl rfl) rfl rfl (by simp only [upd_at, Nat.reduceEqDiff, if_true, if_false, e0_2, e0_1, e0_45, e0_46, hfp, g63_0]) (by simp only [St.eval, upd_at, Nat.reduceEqDiff, if_true, if_false, e0_2, e0_1, e0_45, e0_46, hfp, g63_0] <;> rfl) ?_
     refine pops_do rfl rfl (by simp only [upd_at, Nat.reduceEqDiff, if_true, if_false, e0_2, e0_1, e0_45, e0_46, hfp, g63_0]) fun M hM => ?_
     simp only [pop, St.eval, constSlot, upd_at, Nat.reduceEqDiff, if_true, if_false, popCall, List.toList_toArray, List.map_cons, List.map_nil, svs, List.mapM_cons, List.mapM_nil, Option.bind_eq_bind, Option.bind_some, Option.pure_def, List.append_nil, List.cons_append, List.nil_append, str_size, e0_2, e0_1, e0_45, e0_46, hfp, g63_0]
     refine PFun.use (indexByte_fun W0 (s.drop (j + 1)) c) fun h2 s2 => hM _ _ ?_
     replace s2 := Same.trans (Same.refl _) s2
     clear hM M
     refine pops_do rfl rfl (by simp only [upd_at, Nat.reduceEqDiff, if_true, if_false, e0_2, e0_1, e0_45, e0_46, hfp, g63_0]) fun M hM => ?_
     simp only [pop, St.eval, constSlot, upd_at, Nat.reduceEqDiff, if_true, if_false, popBin, binK, intK, strK, eqK, eq_self, true_and, and_true, e0_2, e0_1, e0_45, e0_46, hfp, g63_0]
     refine hM _ _ ?_
     clear hM M
     refine pops_to rfl fun M hM => ?_
     simp only [pop, St.eval, constSlot, upd_at, Nat.reduceEqDiff, if_true, if_false, popIf, true_implies, false_implies, Bool.true_eq_false, Bool.false_eq_true, reduceCtorEq, true_and, and_true, e0_2, e0_1, e0_45, e0_46, hfp, g63_0]
     refine hM _ _ ?_
     clear hM M
     exact pops_done (hJ28 _ _ s2 (wk_same (wk_any ((wk_any ((wk_any ((wk_any ((wk_any ((wk_any ((wk_any ((wk_any (Wk.refl _ _))))))))))))))))))
    ·skip
     intro g63_0 J28 hJ28
     simp only [List.take_succ_cons, List.take_zero]
     simp only [anyAt_cons, anyAt_nil] at hJ28
     refine pops_off (b := true) rfl rfl (by simp only [upd_at, Nat.reduceEqDiff, if_true, if_false, e0_2, e0_1, e0_45, e0_46, hfp, g63_0]) (by decide) ?_
     refine pops_off (b := true) rfl rfl (by simp only [upd_at, Nat.reduceEqDiff, if_true, if_false, e0_2, e0_1, e0_45, e0_46, hfp, g63_0]) (by decide) ?_
     refine pops_off (b := true) rfl rfl (by simp only [upd_at, Nat.reduceEqDiff, if_true, if_false, e0_2, e0_1, e0_45, e0_46, hfp, g63_0]) (by decide) ?_
     refine pops_off (b := true) rfl rfl (by simp only [upd_at, Nat.reduceEqDiff, if_true, if_false, e0_2, e0_1, e0_45, e0_46, hfp, g63_0]) (by decide) ?_
     refine pops_off (b := true) rfl rfl (by simp only [upd_at, Nat.reduceEqDiff, if_true, if_false, e0_2, e0_1, e0_45, e0_46, hfp, g63_0]) (by decide) ?_
     refine pops_off (b := true) rfl rfl (by simp only [upd_at, Nat.reduceEqDiff, if_true, if_false, e0_2, e0_1, e0_45, e0_46, hfp, g63_0]) (by decide) ?_
     refine pops_off (b := true) rfl rfl (by simp only [upd_at, Nat.reduceEqDiff, if_true, if_false, e0_2, e0_1, e0_45, e0_46, hfp, g63_0]) (by decide) ?_
     refine pops_off (b := true) rfl rfl (by simp only [upd_at, Nat.reduceEqDiff, if_true, if_false, e0_2, e0_1, e0_45, e0_46, hfp, g63_0]) (by decide) ?_
     refine pops_to rfl fun M hM => ?_
     simp only [pop, St.eval, constSlot, upd_at, Nat.reduceEqDiff, if_true, if_false, popIf, true_implies, false_implies, Bool.true_eq_false, Bool.false_eq_true, reduceCtorEq, true_and, and_true, e0_2, e0_1, e0_45, e0_46, hfp, g63_0]
     refine hM _ _ ?_
     clear hM M
     exact pops_done (hJ28 _ _ (Same.refl _) (wk_same (wk_any ((wk_any ((wk_any ((wk_any ((wk_any ((wk_any ((wk_any ((wk_any (Wk.refl _ _))))))))))))))))))
    simp only [List.drop_succ_cons, List.drop_zero, anyAt_cons, anyAt_nil]
    intro hj28 sj28
    replace sj28 := Same.trans sj26 sj28
    refine pops_done (hR25 _ ?_)
    clear hR25 R25
    try simp only [thenK, scopeK]
    refine hN24 _ ?_
    clear hN24 N24
    refine pwp_cond (by simp only [St.eval, upd_at, Nat.reduceEqDiff, if_true, if_false, e0_2, e0_1, e0_45, e0_46, hfp] <;> rfl) (fun c72 => ?_) (fun c72 => ?_)
    ·skip
     rw [ix_dec, u8_47, fb_ref] at c72
     have he := featE_6 (x := x) (by rw [hs, ffB_bad2 hx c72]; simp)
     refine pwp_then fun N29 hN29 => ?_
     refine pwp_reg fun R30 hR30 => ?_
     refine pops_mv (.inr rfl) rfl (by simp only [St.eval, constSlot] <;> rfl) ?_
     refine pops_done (hR30 _ ?_)
     clear hR30 R30
     try simp only [thenK, scopeK]
     refine hN29 _ ?_
     clear hN29 N29
     refine pwp_ret ?_
     simp only [thenK, blockK, scopeK, bodyK]
     clear hN19 N19 hN13 N13
     refine ⟨_, rfl, endFun sj28 ?_⟩
     try simp only [upd_at, Nat.reduceEqDiff, if_true, if_false, e0_2, e0_1, e0_45, e0_46, hfp]
     all_goals
      rw [he]
    ·skip
     rw [ix_dec, u8_47, fb_ref] at c72
     refine pwp_skip ?_
     try simp only [blockK, thenK, scopeK]
     try simp only [thenK, scopeK]
     refine hN19 _ ?_
     clear hN19 N19
     refine pwp_reg fun R31 hR31 => ?_
     refine pops_to rfl fun M hM => ?_
     simp only [pop, St.eval, constSlot, upd_at, Nat.reduceEqDiff, if_true, if_false, popBin, binK, intK, strK, eqK, eq_self, true_and, and_true, e0_2, e0_1, e0_45, e0_46, hfp]
     refine hM _ _ ?_
     clear hM M
     refine pops_mv (.inl rfl) rfl (by simp only [St.eval, upd_at, Nat.reduceEqDiff, if_true, if_false, e0_2, e0_1, e0_45, e0_46, hfp] <;> rfl) ?_
     refine pops_done (hR31 _ ?_)
     clear hR31 R31
     try simp only [thenK, scopeK]
     exact ⟨_, by omega, _, .refl _ _, j + 1, rfl, by omega, pre_step hx hx0_1 c72, sj28, by simp only [upd_at, Nat.reduceEqDiff, if_true, if_false, e0_2, e0_1, e0_45, e0_46, hfp], by simp only [upd_at, Nat.reduceEqDiff, if_true, if_false, e0_2, e0_1, e0_45, e0_46, hfp], by simp only [upd_at, Nat.reduceEqDiff, if_true, if_false, e0_2, e0_1, e0_45, e0_46, hfp], by simp only [upd_at, Nat.reduceEqDiff, if_true, if_false, e0_46]; rw [wrap_succ (by omega)]⟩
   ·skip
    have hj := of_decide_eq_false c47
    have hff : ffB s = true := ffB_good2 fun m hm c hc => hx0_1 m (by omega) c hc
    have hF6 : (formFB x || !ffB x.forbid) = false := by rw [c42', hs, hff]; rfl
    refine pwp_exit ?_
    try simp only [thenK, blockK, scopeK, if_true, Nat.reduceEqDiff, if_false]
    clear hN18 N18
    try simp only [blockK, scopeK, if_true, Nat.reduceEqDiff, if_false, thenK]
    try simp only [thenK, scopeK]
    refine hN13 _ ?_
    clear hN13 N13
    refine pwp_then fun N32 hN32 => ?_
    refine pwp_reg fun R33 hR33 => ?_
    refine pops_mv (.inr rfl) rfl (by simp only [St.eval, constSlot] <;> rfl) ?_
    refine pops_done (hR33 _ ?_)
    clear hR33 R33
    try simp only [thenK, scopeK]
    refine hN32 _ ?_
    clear hN32 N32
    refine pwp_then fun N34 hN34 => ?_
    refine pwp_then fun N35 hN35 => ?_
    refine pwp_reg fun R36 hR36 => ?_
    refine pops_mv (.inl rfl) rfl (by simp only [St.eval, upd_at, Nat.reduceEqDiff, if_true, if_false, e0_2, e0_1, e0_45, e0_46, hfp] <;> rfl) ?_
    refine pops_to rfl fun M hM => ?_
    simp only [pop, St.eval, constSlot, upd_at, Nat.reduceEqDiff, if_true, if_false, popCall, List.toList_toArray, List.map_cons, List.map_nil, popBuiltin, popLen, lenOfSlot, List.length_map, Tryz.underlying54, eq_self, true_and, and_true, str_list, str_size, str_app, str_cut, str_get, e0_2, e0_1, e0_45, e0_46, hfp]
    refine hM _ _ ?_
    clear hM M
    refine pops_mv (.inl rfl) rfl (by simp only [St.eval, constSlot] <;> rfl) ?_
    refine pops_done (hR36 _ ?_)
    clear hR36 R36
    try simp only [thenK, scopeK]
    refine hN35 _ ?_
    clear hN35 N35
    refine pwp_block ?_
    refine pwp_loop (fun k σ => ∃ (i : Nat), (k = 5 - i) ∧ (i ≤ 5) ∧ (Same h σ.hp) ∧ (σ.env 2 = .sv (.one (.rop (featPV x)))) ∧ (σ.env 74 = .sv (.one (.ro true 1 KL))) ∧ (σ.env 75 = .sv (.one (pint (KL.length : Nat)))) ∧ (σ.env 76 = .sv (.one (pint (i : Nat)))) ∧ (σ.env 7 = .sv (.one (pint (kacc i))))) _ ⟨_, .refl _ _, 0, rfl, ?_⟩ ?_
    · exact ⟨Nat.zero_le _, sl0, by simp only [upd_at, Nat.reduceEqDiff, if_true, if_false, e0_2, e0_1, e0_45, e0_46, hfp], by simp only [upd_at, Nat.reduceEqDiff, if_true, if_false, e0_2, e0_1, e0_45, e0_46, hfp], by simp only [upd_at, Nat.reduceEqDiff, if_true, if_false] <;> rfl, by simp only [upd_at, Nat.reduceEqDiff, if_true, if_false]; rfl, by simp only [upd_at, Nat.reduceEqDiff, if_true, if_false]; rfl⟩
    ·rintro k ⟨e, hp1⟩ ⟨i, hk1, hx1_0, sl1, e1_2, e1_74, e1_75, e1_76, e1_7⟩
     simp only at sl1 e1_2 e1_74 e1_75 e1_76 e1_7
     refine pwp_then fun N37 hN37 => ?_
     refine pwp_reg fun R38 hR38 => ?_
     refine pops_to rfl fun M hM => ?_
     simp only [pop, St.eval, constSlot, upd_at, Nat.reduceEqDiff, if_true, if_false, popBin, binK, intK, strK, eqK, eq_self, true_and, and_true, e1_2, e1_74, e1_75, e1_76, e1_7, hfp]
     refine hM _ _ ?_
     clear hM M
     refine pops_done (hR38 _ ?_)
     clear hR38 R38
     try simp only [thenK, scopeK]
     refine hN37 _ ?_
     clear hN37 N37
     refine pwp_then fun N39 hN39 => ?_
     refine pwp_cond (by simp only [St.eval, upd_at, Nat.reduceEqDiff, if_true, if_false, e1_2, e1_74, e1_75, e1_76, e1_7, hfp] <;> rfl) (fun c77 => ?_) (fun c77 => ?_)
     ·skip
      have hi : i < 5 := by have := of_decide_eq_true c77; simp only [List.length_cons, List.length_nil] at this; omega
      have hget := KL_at hi
      have hks := kstep hi
      refine pwp_skip ?_
      try simp only [thenK, scopeK]
      refine hN39 _ ?_
      clear hN39 N39
      refine pwp_then fun N40 hN40 => ?_
      refine pwp_block ?_
      refine pwp_then fun N41 hN41 => ?_
      refine pwp_reg fun R42 hR42 => ?_
      refine pops_to rfl fun M hM => ?_
      simp only [pop, St.eval, constSlot, upd_at, Nat.reduceEqDiff, if_true, if_false, popIndexAddr, Tryz.underlying54, sz3, eq_self, true_and, and_true, str_list, str_size, str_app, str_cut, str_get, e1_2, e1_74, e1_75, e1_76, e1_7, hfp, hget, Int.toNat_natCast]
      refine ⟨Int.natCast_nonneg _, hM _ _ ?_⟩
      clear hM M
      refine pops_to rfl fun M hM => ?_
      simp only [pop, St.eval, constSlot, upd_at, Nat.reduceEqDiff, if_true, if_false, popLoad, loadK, isAggD, List.drop_zero, List.getElem?_toArray, List.getElem?_cons_zero, List.getElem?_cons_succ, Bool.false_eq_true, Tryz.underlying3, sz3, eq_self, true_and, and_true, e1_2, e1_74, e1_75, e1_76, e1_7, hfp]
      refine hM _ _ ?_
      clear hM M
      refine pops_mv (.inr rfl) rfl (by simp only [St.eval, upd_at, Nat.reduceEqDiff, if_true, if_false, e1_2, e1_74, e1_75, e1_76, e1_7, hfp] <;> rfl) ?_
      refine pops_done (hR42 _ ?_)
      clear hR42 R42
      try simp only [thenK, scopeK]
      refine hN41 _ ?_
      clear hN41 N41
      refine pwp_reg fun R43 hR43 => ?_
      refine pops_mv (.inl rfl) rfl (by simp only [St.eval, upd_at, Nat.reduceEqDiff, if_true, if_false, e1_2, e1_74, e1_75, e1_76, e1_7, hfp] <;> rfl) ?_
      refine pops_mv (.inl rfl) rfl (by simp only [St.eval, upd_at, Nat.reduceEqDiff, if_true, if_false, e1_2, e1_74, e1_75, e1_76, e1_7, hfp] <;> rfl) ?_
      refine pops_to rfl fun M hM => ?_
      simp only [pop, St.eval, constSlot, upd_at, Nat.reduceEqDiff, if_true, if_false, popBin, binK, intK, strK, eqK, eq_self, true_and, and_true, e1_2, e1_74, e1_75, e1_76, e1_7, hfp]
      refine ⟨by omega, hM _ _ ?_⟩
      clear hM M
      refine pops_to rfl fun M hM => ?_
      simp only [pop, St.eval, constSlot, upd_at, Nat.reduceEqDiff, if_true, if_false, popBin, binK, intK, strK, eqK, eq_self, true_and, and_true, e1_2, e1_74, e1_75, e1_76, e1_7, hfp, hks]
      refine hM _ _ ?_
      clear hM M
      refine pops_mv (.inr rfl) rfl (by simp only [St.eval, upd_at, Nat.reduceEqDiff, if_true, if_false, e1_2, e1_74, e1_75, e1_76, e1_7, hfp] <;> rfl) ?_
      refine pops_done (hR43 _ ?_)
      clear hR43 R43
      try simp only [blockK, thenK, scopeK]
      try simp only [thenK, scopeK]
      refine hN40 _ ?_
      clear hN40 N40
      refine pwp_reg fun R44 hR44 => ?_
      refine pops_to rfl fun M hM => ?_
      simp only [pop, St.eval, constSlot, upd_at, Nat.reduceEqDiff, if_true, if_false, popBin, binK, intK, strK, eqK, eq_self, true_and, and_true, e1_2, e1_74, e1_75, e1_76, e1_7, hfp]
      refine hM _ _ ?_
      clear hM M
      refine pops_mv (.inl rfl) rfl (by simp only [St.eval, upd_at, Nat.reduceEqDiff, if_true, if_false, e1_2, e1_74, e1_75, e1_76, e1_7, hfp] <;> rfl) ?_
      refine pops_done (hR44 _ ?_)
      clear hR44 R44
      try simp only [thenK, scopeK]
      exact ⟨_, by omega, _, .refl _ _, i + 1, rfl, by omega, sl1, by simp only [upd_at, Nat.reduceEqDiff, if_true, if_false, e1_2, e1_74, e1_75, e1_76, e1_7, hfp], by simp only [upd_at, Nat.reduceEqDiff, if_true, if_false, e1_2, e1_74, e1_75, e1_76, e1_7, hfp], by simp only [upd_at, Nat.reduceEqDiff, if_true, if_false, e1_2, e1_74, e1_75, e1_76, e1_7, hfp], by simp only [upd_at, Nat.reduceEqDiff, if_true, if_false, e1_76]; rw [wrap_succ (by omega)], by simp only [upd_at, Nat.reduceEqDiff, if_true, if_false, e1_2, e1_74, e1_75, e1_76, e1_7, hfp]⟩
     ·skip
      have hi : ¬ i < 5 := by have := of_decide_eq_false c77; simp only [List.length_cons, List.length_nil] at this; omega
      have hi5 : i = 5 := by omega
      subst hi5
      have hk5 : kacc 5 = 62 := rfl
      refine pwp_exit ?_
      try simp only [thenK, blockK, scopeK, if_true, Nat.reduceEqDiff, if_false]
      clear hN39 N39
      try simp only [blockK, scopeK, if_true, Nat.reduceEqDiff, if_false, thenK]
      try simp only [thenK, scopeK]
      refine hN34 _ ?_
      clear hN34 N34
      refine pwp_then fun N45 hN45 => ?_
      refine pwp_then fun N46 hN46 => ?_
      refine pwp_reg fun R47 hR47 => ?_
      refine pops_to rfl fun M hM => ?_
      simp only [pop, St.eval, constSlot, upd_at, Nat.reduceEqDiff, if_true, if_false, popFieldAddr, fieldOf, List.drop_succ_cons, List.drop_zero, List.getElem?_toArray, List.getElem?_cons_zero, List.getElem?_cons_succ, Tryz.underlying23, sz3, e1_2, e1_74, e1_75, e1_76, e1_7, hfp]
      refine ⟨⟨_, rfl⟩, hM _ _ ?_⟩
      clear hM M
      refine pops_to rfl fun M hM => ?_
      simp only [pop, St.eval, constSlot, upd_at, Nat.reduceEqDiff, if_true, if_false, popLoad, loadK, isAggD, List.drop_zero, List.getElem?_toArray, List.getElem?_cons_zero, List.getElem?_cons_succ, Bool.false_eq_true, Tryz.underlying3, sz3, eq_self, true_and, and_true, e1_2, e1_74, e1_75, e1_76, e1_7, hfp]
      refine hM _ _ ?_
      clear hM M
      refine pops_to rfl fun M hM => ?_
      simp only [pop, St.eval, constSlot, upd_at, Nat.reduceEqDiff, if_true, if_false, popBin, binK, intK, strK, eqK, eq_self, true_and, and_true, e1_2, e1_74, e1_75, e1_76, e1_7, hfp]
      refine hM _ _ ?_
      clear hM M
      refine pops_mv (.inl rfl) rfl (by simp only [St.eval, upd_at, Nat.reduceEqDiff, if_true, if_false, e1_2, e1_74, e1_75, e1_76, e1_7, hfp] <;> rfl) ?_
      apply pops_or0 6 88 94 [89, 90, 91, 92, 93] (by simp only [upd_at, Nat.reduceEqDiff, if_true, if_false, e1_2, e1_74, e1_75, e1_76, e1_7, hfp] <;> rfl)
      ·skip
       intro g88_0 J48 hJ48
       simp only [List.take_succ_cons, List.take_zero]
       simp only [anyAt_cons, anyAt_nil] at hJ48
       refine pops_do rfl rfl (by simp only [upd_at, Nat.reduceEqDiff, if_true, if_false, e1_2, e1_74, e1_75, e1_76, e1_7, hfp, g88_0]) fun M hM => ?_
       simp only [pop, St.eval, constSlot, upd_at, Nat.reduceEqDiff, if_true, if_false, popFieldAddr, fieldOf, List.drop_succ_cons, List.drop_zero, List.getElem?_toArray, List.getElem?_cons_zero, List.getElem?_cons_succ, Tryz.underlying23, sz3, e1_2, e1_74, e1_75, e1_76, e1_7, hfp, g88_0]
       refine ⟨⟨_, rfl⟩, hM _ _ ?_⟩
       clear hM M
       refine pops_do rfl rfl (by simp only [upd_at, Nat.reduceEqDiff, if_true, if_false, e1_2, e1_74, e1_75, e1_76, e1_7, hfp, g88_0]) fun M hM => ?_
       simp only [pop, St.eval, constSlot, upd_at, Nat.reduceEqDiff, if_true, if_false, popLoad, loadK, isAggD, List.drop_zero, List.getElem?_toArray, List.getElem?_cons_zero, List.getElem?_cons_succ, Bool.false_eq_true, Tryz.underlying3, sz3, eq_self, true_and, and_true, e1_2, e1_74, e1_75, e1_76, e1_7, hfp, g88_0]
       refine hM _ _ ?_
       clear hM M
       refine pops_mvg (.inl rfl) rfl rfl (by simp only [upd_at, Nat.reduceEqDiff, if_true, if_false, e1_2, e1_74, e1_75, e1_76, e1_7, hfp, g88_0]) (by simp only [St.eval, upd_at, Nat.reduceEqDiff, if_true, if_false, e1_2, e1_74, e1_75, e1_76, e1_7, hfp, g88_0] <;> rfl) ?_
       refine pops_do rfl rfl (by simp only [upd_at, Nat.reduceEqDiff, if_true, if_false, e1_2, e1_74, e1_75, e1_76, e1_7, hfp, g88_0]) fun M hM => ?_
       simp only [pop, St.eval, constSlot, upd_at, Nat.reduceEqDiff, if_true, if_false, popBin, binK, intK, strK, eqK, eq_self, true_and, and_true, e1_2, e1_74, e1_75, e1_76, e1_7, hfp, g88_0, hk5]
       refine hM _ _ ?_
       clear hM M
       refine pops_do rfl rfl (by simp only [upd_at, Nat.reduceEqDiff, if_true, if_false, e1_2, e1_74, e1_75, e1_76, e1_7, hfp, g88_0]) fun M hM => ?_
       simp only [pop, St.eval, constSlot, upd_at, Nat.reduceEqDiff, if_true, if_false, popBin, binK, intK, strK, eqK, Tryz.underlying3, isPtr, eq_self, true_and, and_true, e1_2, e1_74, e1_75, e1_76, e1_7, hfp, g88_0]
       refine hM _ _ ?_
       clear hM M
       refine pops_to rfl fun M hM => ?_
       simp only [pop, St.eval, constSlot, upd_at, Nat.reduceEqDiff, if_true, if_false, popIf, true_implies, false_implies, Bool.true_eq_false, Bool.false_eq_true, reduceCtorEq, true_and, and_true, e1_2, e1_74, e1_75, e1_76, e1_7, hfp, g88_0]
       refine hM _ _ ?_
       clear hM M
       exact pops_done (hJ48 _ (wk_same (wk_any ((wk_any ((wk_any ((wk_any ((wk_any (Wk.refl _ _))))))))))))
      ·skip
       intro g88_0 J48 hJ48
       simp only [List.take_succ_cons, List.take_zero]
       simp only [anyAt_cons, anyAt_nil] at hJ48
       refine pops_off (b := true) rfl rfl (by simp only [upd_at, Nat.reduceEqDiff, if_true, if_false, e1_2, e1_74, e1_75, e1_76, e1_7, hfp, g88_0]) (by decide) ?_
       refine pops_off (b := true) rfl rfl (by simp only [upd_at, Nat.reduceEqDiff, if_true, if_false, e1_2, e1_74, e1_75, e1_76, e1_7, hfp, g88_0]) (by decide) ?_
       refine pops_off (b := true) rfl rfl (by simp only [upd_at, Nat.reduceEqDiff, if_true, if_false, e1_2, e1_74, e1_75, e1_76, e1_7, hfp, g88_0]) (by decide) ?_
       refine pops_off (b := true) rfl rfl (by simp only [upd_at, Nat.reduceEqDiff, if_true, if_false, e1_2, e1_74, e1_75, e1_76, e1_7, hfp, g88_0]) (by decide) ?_
       refine pops_off (b := true) rfl rfl (by simp only [upd_at, Nat.reduceEqDiff, if_true, if_false, e1_2, e1_74, e1_75, e1_76, e1_7, hfp, g88_0]) (by decide) ?_
       refine pops_to rfl fun M hM => ?_
       simp only [pop, St.eval, constSlot, upd_at, Nat.reduceEqDiff, if_true, if_false, popIf, true_implies, false_implies, Bool.true_eq_false, Bool.false_eq_true, reduceCtorEq, true_and, and_true, e1_2, e1_74, e1_75, e1_76, e1_7, hfp, g88_0]
       refine hM _ _ ?_
       clear hM M
       exact pops_done (hJ48 _ (wk_same (wk_any ((wk_any ((wk_any ((wk_any ((wk_any (Wk.refl _ _))))))))))))
      simp only [List.drop_succ_cons, List.drop_zero, anyAt_cons, anyAt_nil]
      refine pops_done (hR47 _ ?_)
      clear hR47 R47
      try simp only [thenK, scopeK]
      refine hN46 _ ?_
      clear hN46 N46
      refine pwp_cond (by simp only [St.eval, upd_at, Nat.reduceEqDiff, if_true, if_false, e1_2, e1_74, e1_75, e1_76, e1_7, hfp] <;> rfl) (fun c94 => ?_) (fun c94 => ?_)
      ·skip
       have hF5 : (andNotI x.sums 62 != 0) = true := by
         rcases Bool.or_eq_true _ _ ▸ c94 with h1 | h1
         · exact neg_bits hz (of_decide_eq_true h1)
         · exact h1
       have he := featE_5 hF6 hF5
       refine pwp_then fun N49 hN49 => ?_
       refine pwp_reg fun R50 hR50 => ?_
       refine pops_mv (.inr rfl) rfl (by simp only [St.eval, constSlot] <;> rfl) ?_
       refine pops_done (hR50 _ ?_)
       clear hR50 R50
       try simp only [thenK, scopeK]
       refine hN49 _ ?_
       clear hN49 N49
       refine pwp_ret ?_
       simp only [thenK, blockK, scopeK, bodyK]
       clear hN45 N45
       refine ⟨_, rfl, endFun sl1 ?_⟩
       try simp only [upd_at, Nat.reduceEqDiff, if_true, if_false, e1_2, e1_74, e1_75, e1_76, e1_7, hfp]
       all_goals
        rw [he]
      ·skip
       have hF5 : (andNotI x.sums 62 != 0) = false := (Bool.or_eq_false_iff.1 c94).2
       refine pwp_skip ?_
       try simp only [thenK, scopeK]
       refine hN45 _ ?_
       clear hN45 N45
       refine pwp_then fun N51 hN51 => ?_
       refine pwp_reg fun R52 hR52 => ?_
       refine pops_mv (.inr rfl) rfl (by simp only [St.eval, constSlot] <;> rfl) ?_
       refine pops_done (hR52 _ ?_)
       clear hR52 R52
       try simp only [thenK, scopeK]
       refine hN51 _ ?_
       clear hN51 N51
       refine pwp_then fun N53 hN53 => ?_
       refine pwp_then fun N54 hN54 => ?_
       refine pwp_reg fun R55 hR55 => ?_
       refine pops_mv (.inl rfl) rfl (by simp only [St.eval, upd_at, Nat.reduceEqDiff, if_true, if_false, e1_2, e1_74, e1_75, e1_76, e1_7, hfp] <;> rfl) ?_
       refine pops_to rfl fun M hM => ?_
       simp only [pop, St.eval, constSlot, upd_at, Nat.reduceEqDiff, if_true, if_false, popFieldAddr, fieldOf, List.drop_succ_cons, List.drop_zero, List.getElem?_toArray, List.getElem?_cons_zero, List.getElem?_cons_succ, Tryz.underlying23, sz3, e1_2, e1_74, e1_75, e1_76, e1_7, hfp]
       refine ⟨⟨_, rfl⟩, hM _ _ ?_⟩
       clear hM M
       refine pops_to rfl fun M hM => ?_
       simp only [pop, St.eval, constSlot, upd_at, Nat.reduceEqDiff, if_true, if_false, popLoad, loadK, isAggD, List.drop_zero, List.getElem?_toArray, List.getElem?_cons_zero, List.getElem?_cons_succ, Bool.false_eq_true, Tryz.underlying3, sz3, eq_self, true_and, and_true, e1_2, e1_74, e1_75, e1_76, e1_7, hfp]
       refine hM _ _ ?_
       clear hM M
       refine pops_to rfl fun M hM => ?_
       simp only [pop, St.eval, constSlot, upd_at, Nat.reduceEqDiff, if_true, if_false, popCall, List.toList_toArray, List.map_cons, List.map_nil, svs, List.mapM_cons, List.mapM_nil, Option.bind_eq_bind, Option.bind_some, Option.pure_def, List.append_nil, List.cons_append, List.nil_append, str_size, e1_2, e1_74, e1_75, e1_76, e1_7, hfp]
       refine PFun.use (withinRef_fun W0 _ _ _) fun h3 s3 => hM _ _ ?_
       replace s3 := Same.trans sl1 s3
       clear hM M
       refine pops_to rfl fun M hM => ?_
       simp only [pop, St.eval, constSlot, upd_at, Nat.reduceEqDiff, if_true, if_false, unK, e1_2, e1_74, e1_75, e1_76, e1_7, hfp]
       refine hM _ _ ?_
       clear hM M
       refine pops_mv (.inl rfl) rfl (by simp only [St.eval, upd_at, Nat.reduceEqDiff, if_true, if_false, e1_2, e1_74, e1_75, e1_76, e1_7, hfp] <;> rfl) ?_
       apply pops_or 6 100 106 [101, 102, 103, 104, 105] (by simp only [upd_at, Nat.reduceEqDiff, if_true, if_false, e1_2, e1_74, e1_75, e1_76, e1_7, hfp] <;> rfl)
       ·skip
        intro g100_0 J56 hJ56
        simp only [List.take_succ_cons, List.take_zero]
        simp only [anyAt_cons, anyAt_nil] at hJ56
        refine pops_mvg (.inl rfl) rfl rfl (by simp only [upd_at, Nat.reduceEqDiff, if_true, if_false, e1_2, e1_74, e1_75, e1_76, e1_7, hfp, g100_0]) (by simp only [St.eval, upd_at, Nat.reduceEqDiff, if_true, if_false, e1_2, e1_74, e1_75, e1_76, e1_7, hfp, g100_0] <;> rfl) ?_
        refine pops_do rfl rfl (by simp only [upd_at, Nat.reduceEqDiff, if_true, if_false, e1_2, e1_74, e1_75, e1_76, e1_7, hfp, g100_0]) fun M hM => ?_
        simp only [pop, St.eval, constSlot, upd_at, Nat.reduceEqDiff, if_true, if_false, popFieldAddr, fieldOf, List.drop_succ_cons, List.drop_zero, List.getElem?_toArray, List.getElem?_cons_zero, List.getElem?_cons_succ, Tryz.underlying23, sz3, e1_2, e1_74, e1_75, e1_76, e1_7, hfp, g100_0]
        refine ⟨⟨_, rfl⟩, hM _ _ ?_⟩
        clear hM M
        refine pops_do rfl rfl (by simp only [upd_at, Nat.reduceEqDiff, if_true, if_false, e1_2, e1_74, e1_75, e1_76, e1_7, hfp, g100_0]) fun M hM => ?_
        simp only [pop, St.eval, constSlot, upd_at, Nat.reduceEqDiff, if_true, if_false, popLoad, loadK, isAggD, List.drop_zero, List.getElem?_toArray, List.getElem?_cons_zero, List.getElem?_cons_succ, Bool.false_eq_true, Tryz.underlying3, sz3, eq_self, true_and, and_true, e1_2, e1_74, e1_75, e1_76, e1_7, hfp, g100_0]
        refine hM _ _ ?_
        clear hM M
        refine pops_do rfl rfl (by simp only [upd_at, Nat.reduceEqDiff, if_true, if_false, e1_2, e1_74, e1_75, e1_76, e1_7, hfp, g100_0]) fun M hM => ?_
        simp only [pop, St.eval, constSlot, upd_at, Nat.reduceEqDiff, if_true, if_false, popCall, List.toList_toArray, List.map_cons, List.map_nil, svs, List.mapM_cons, List.mapM_nil, Option.bind_eq_bind, Option.bind_some, Option.pure_def, List.append_nil, List.cons_append, List.nil_append, str_size, e1_2, e1_74, e1_75, e1_76, e1_7, hfp, g100_0]
        refine PFun.use (withinRef_fun W0 _ _ _) fun h4 s4 => hM _ _ ?_
        replace s4 := Same.trans (Same.refl _) s4
        clear hM M
        refine pops_do rfl rfl (by simp only [upd_at, Nat.reduceEqDiff, if_true, if_false, e1_2, e1_74, e1_75, e1_76, e1_7, hfp, g100_0]) fun M hM => ?_
        simp only [pop, St.eval, constSlot, upd_at, Nat.reduceEqDiff, if_true, if_false, unK, e1_2, e1_74, e1_75, e1_76, e1_7, hfp, g100_0]
        refine hM _ _ ?_
        clear hM M
        refine pops_to rfl fun M hM => ?_
        simp only [pop, St.eval, constSlot, upd_at, Nat.reduceEqDiff, if_true, if_false, popIf, true_implies, false_implies, Bool.true_eq_false, Bool.false_eq_true, reduceCtorEq, true_and, and_true, e1_2, e1_74, e1_75, e1_76, e1_7, hfp, g100_0]
        refine hM _ _ ?_
        clear hM M
        exact pops_done (hJ56 _ _ s4 (wk_same (wk_any ((wk_any ((wk_any ((wk_any ((wk_any (Wk.refl _ _))))))))))))
       ·skip
        intro g100_0 J56 hJ56
        simp only [List.take_succ_cons, List.take_zero]
        simp only [anyAt_cons, anyAt_nil] at hJ56
        refine pops_off (b := true) rfl rfl (by simp only [upd_at, Nat.reduceEqDiff, if_true, if_false, e1_2, e1_74, e1_75, e1_76, e1_7, hfp, g100_0]) (by decide) ?_
        refine pops_off (b := true) rfl rfl (by simp only [upd_at, Nat.reduceEqDiff, if_true, if_false, e1_2, e1_74, e1_75, e1_76, e1_7, hfp, g100_0]) (by decide) ?_
        refine pops_off (b := true) rfl rfl (by simp only [upd_at, Nat.reduceEqDiff, if_true, if_false, e1_2, e1_74, e1_75, e1_76, e1_7, hfp, g100_0]) (by decide) ?_
        refine pops_off (b := true) rfl rfl (by simp only [upd_at, Nat.reduceEqDiff, if_true, if_false, e1_2, e1_74, e1_75, e1_76, e1_7, hfp, g100_0]) (by decide) ?_
        refine pops_off (b := true) rfl rfl (by simp only [upd_at, Nat.reduceEqDiff, if_true, if_false, e1_2, e1_74, e1_75, e1_76, e1_7, hfp, g100_0]) (by decide) ?_
        refine pops_to rfl fun M hM => ?_
        simp only [pop, St.eval, constSlot, upd_at, Nat.reduceEqDiff, if_true, if_false, popIf, true_implies, false_implies, Bool.true_eq_false, Bool.false_eq_true, reduceCtorEq, true_and, and_true, e1_2, e1_74, e1_75, e1_76, e1_7, hfp, g100_0]
        refine hM _ _ ?_
        clear hM M
        exact pops_done (hJ56 _ _ (Same.refl _) (wk_same (wk_any ((wk_any ((wk_any ((wk_any ((wk_any (Wk.refl _ _))))))))))))
       simp only [List.drop_succ_cons, List.drop_zero, anyAt_cons, anyAt_nil]
       intro hj56 sj56
       replace sj56 := Same.trans s3 sj56
       refine pops_mv (.inl rfl) rfl (by simp only [St.eval, upd_at, Nat.reduceEqDiff, if_true, if_false, e1_2, e1_74, e1_75, e1_76, e1_7, hfp] <;> rfl) ?_
       apply pops_or 8 107 115 [108, 109, 110, 111, 112, 113, 114] (by simp only [upd_at, Nat.reduceEqDiff, if_true, if_false, e1_2, e1_74, e1_75, e1_76, e1_7, hfp] <;> rfl)
       ·skip
        intro g107_0 J57 hJ57
        simp only [List.take_succ_cons, List.take_zero]
        simp only [anyAt_cons, anyAt_nil] at hJ57
        refine pops_mvg (.inl rfl) rfl rfl (by simp only [upd_at, Nat.reduceEqDiff, if_true, if_false, e1_2, e1_74, e1_75, e1_76, e1_7, hfp, g107_0]) (by simp only [St.eval, upd_at, Nat.reduceEqDiff, if_true, if_false, e1_2, e1_74, e1_75, e1_76, e1_7, hfp, g107_0] <;> rfl) ?_
        refine pops_do rfl rfl (by simp only [upd_at, Nat.reduceEqDiff, if_true, if_false, e1_2, e1_74, e1_75, e1_76, e1_7, hfp, g107_0]) fun M hM => ?_
        simp only [pop, St.eval, constSlot, upd_at, Nat.reduceEqDiff, if_true, if_false, popFieldAddr, fieldOf, List.drop_succ_cons, List.drop_zero, List.getElem?_toArray, List.getElem?_cons_zero, List.getElem?_cons_succ, Tryz.underlying23, sz3, e1_2, e1_74, e1_75, e1_76, e1_7, hfp, g107_0]
        refine ⟨⟨_, rfl⟩, hM _ _ ?_⟩
        clear hM M
        refine pops_do rfl rfl (by simp only [upd_at, Nat.reduceEqDiff, if_true, if_false, e1_2, e1_74, e1_75, e1_76, e1_7, hfp, g107_0]) fun M hM => ?_
        simp only [pop, St.eval, constSlot, upd_at, Nat.reduceEqDiff, if_true, if_false, popLoad, loadK, isAggD, List.drop_zero, List.getElem?_toArray, List.getElem?_cons_zero, List.getElem?_cons_succ, Bool.false_eq_true, Tryz.underlying3, sz3, eq_self, true_and, and_true, e1_2, e1_74, e1_75, e1_76, e1_7, hfp, g107_0]
        refine hM _ _ ?_
        clear hM M
        refine pops_do rfl rfl (by simp only [upd_at, Nat.reduceEqDiff, if_true, if_false, e1_2, e1_74, e1_75, e1_76, e1_7, hfp, g107_0]) fun M hM => ?_
        simp only [pop, St.eval, constSlot, upd_at, Nat.reduceEqDiff, if_true, if_false, popFieldAddr, fieldOf, List.drop_succ_cons, List.drop_zero, List.getElem?_toArray, List.getElem?_cons_zero, List.getElem?_cons_succ, Tryz.underlying23, sz3, e1_2, e1_74, e1_75, e1_76, e1_7, hfp, g107_0]
        refine ⟨⟨_, rfl⟩, hM _ _ ?_⟩
        clear hM M
        refine pops_do rfl rfl (by simp only [upd_at, Nat.reduceEqDiff, if_true, if_false, e1_2, e1_74, e1_75, e1_76, e1_7, hfp, g107_0]) fun M hM => ?_
        simp only [pop, St.eval, constSlot, upd_at, Nat.reduceEqDiff, if_true, if_false, popLoad, loadK, isAggD, List.drop_zero, List.getElem?_toArray, List.getElem?_cons_zero, List.getElem?_cons_succ, Bool.false_eq_true, Tryz.underlying3, sz3, eq_self, true_and, and_true, e1_2, e1_74, e1_75, e1_76, e1_7, hfp, g107_0]
        refine hM _ _ ?_
        clear hM M
        refine pops_do rfl rfl (by simp only [upd_at, Nat.reduceEqDiff, if_true, if_false, e1_2, e1_74, e1_75, e1_76, e1_7, hfp, g107_0]) fun M hM => ?_
        simp only [pop, St.eval, constSlot, upd_at, Nat.reduceEqDiff, if_true, if_false, popCall, List.toList_toArray, List.map_cons, List.map_nil, svs, List.mapM_cons, List.mapM_nil, Option.bind_eq_bind, Option.bind_some, Option.pure_def, List.append_nil, List.cons_append, List.nil_append, str_size, e1_2, e1_74, e1_75, e1_76, e1_7, hfp, g107_0]
        refine PFun.use (withinRef_fun W0 _ _ _) fun h5 s5 => hM _ _ ?_
        replace s5 := Same.trans (Same.refl _) s5
        clear hM M
        refine pops_do rfl rfl (by simp only [upd_at, Nat.reduceEqDiff, if_true, if_false, e1_2, e1_74, e1_75, e1_76, e1_7, hfp, g107_0]) fun M hM => ?_
        simp only [pop, St.eval, constSlot, upd_at, Nat.reduceEqDiff, if_true, if_false, unK, e1_2, e1_74, e1_75, e1_76, e1_7, hfp, g107_0]
        refine hM _ _ ?_
        clear hM M
        refine pops_to rfl fun M hM => ?_
        simp only [pop, St.eval, constSlot, upd_at, Nat.reduceEqDiff, if_true, if_false, popIf, true_implies, false_implies, Bool.true_eq_false, Bool.false_eq_true, reduceCtorEq, true_and, and_true, e1_2, e1_74, e1_75, e1_76, e1_7, hfp, g107_0]
        refine hM _ _ ?_
        clear hM M
        exact pops_done (hJ57 _ _ s5 (wk_same (wk_any ((wk_any ((wk_any ((wk_any ((wk_any ((wk_any ((wk_any (Wk.refl _ _))))))))))))))))
       ·skip
        intro g107_0 J57 hJ57
        simp only [List.take_succ_cons, List.take_zero]
        simp only [anyAt_cons, anyAt_nil] at hJ57
        refine pops_off (b := true) rfl rfl (by simp only [upd_at, Nat.reduceEqDiff, if_true, if_false, e1_2, e1_74, e1_75, e1_76, e1_7, hfp, g107_0]) (by decide) ?_
        refine pops_off (b := true) rfl rfl (by simp only [upd_at, Nat.reduceEqDiff, if_true, if_false, e1_2, e1_74, e1_75, e1_76, e1_7, hfp, g107_0]) (by decide) ?_
        refine pops_off (b := true) rfl rfl (by simp only [upd_at, Nat.reduceEqDiff, if_true, if_false, e1_2, e1_74, e1_75, e1_76, e1_7, hfp, g107_0]) (by decide) ?_
        refine pops_off (b := true) rfl rfl (by simp only [upd_at, Nat.reduceEqDiff, if_true, if_false, e1_2, e1_74, e1_75, e1_76, e1_7, hfp, g107_0]) (by decide) ?_
        refine pops_off (b := true) rfl rfl (by simp only [upd_at, Nat.reduceEqDiff, if_true, if_false, e1_2, e1_74, e1_75, e1_76, e1_7, hfp, g107_0]) (by decide) ?_
        refine pops_off (b := true) rfl rfl (by simp only [upd_at, Nat.reduceEqDiff, if_true, if_false, e1_2, e1_74, e1_75, e1_76, e1_7, hfp, g107_0]) (by decide) ?_
        refine pops_off (b := true) rfl rfl (by simp only [upd_at, Nat.reduceEqDiff, if_true, if_false, e1_2, e1_74, e1_75, e1_76, e1_7, hfp, g107_0]) (by decide) ?_
        refine pops_to rfl fun M hM => ?_
        simp only [pop, St.eval, constSlot, upd_at, Nat.reduceEqDiff, if_true, if_false, popIf, true_implies, false_implies, Bool.true_eq_false, Bool.false_eq_true, reduceCtorEq, true_and, and_true, e1_2, e1_74, e1_75, e1_76, e1_7, hfp, g107_0]
        refine hM _ _ ?_
        clear hM M
        exact pops_done (hJ57 _ _ (Same.refl _) (wk_same (wk_any ((wk_any ((wk_any ((wk_any ((wk_any ((wk_any ((wk_any (Wk.refl _ _))))))))))))))))
       simp only [List.drop_succ_cons, List.drop_zero, anyAt_cons, anyAt_nil]
       intro hj57 sj57
       replace sj57 := Same.trans sj56 sj57
       refine pops_mv (.inl rfl) rfl (by simp only [St.eval, upd_at, Nat.reduceEqDiff, if_true, if_false, e1_2, e1_74, e1_75, e1_76, e1_7, hfp] <;> rfl) ?_
       apply pops_or 6 116 122 [117, 118, 119, 120, 121] (by simp only [upd_at, Nat.reduceEqDiff, if_true, if_false, e1_2, e1_74, e1_75, e1_76, e1_7, hfp] <;> rfl)
       ·skip
        intro g116_0 J58 hJ58
        simp only [List.take_succ_cons, List.take_zero]
        simp only [anyAt_cons, anyAt_nil] at hJ58
        refine pops_mvg (.inl rfl) rfl rfl (by simp only [upd_at, Nat.reduceEqDiff, if_true, if_false, e1_2, e1_74, e1_75, e1_76, e1_7, hfp, g116_0]) (by simp only [St.eval, upd_at, Nat.reduceEqDiff, if_true, if_false, e1_2, e1_74, e1_75, e1_76, e1_7, hfp, g116_0] <;> rfl) ?_
        refine pops_do rfl rfl (by simp only [upd_at, Nat.reduceEqDiff, if_true, if_false, e1_2, e1_74, e1_75, e1_76, e1_7, hfp, g116_0]) fun M hM => ?_
        simp only [pop, St.eval, constSlot, upd_at, Nat.reduceEqDiff, if_true, if_false, popFieldAddr, fieldOf, List.drop_succ_cons, List.drop_zero, List.getElem?_toArray, List.getElem?_cons_zero, List.getElem?_cons_succ, Tryz.underlying23, sz3, e1_2, e1_74, e1_75, e1_76, e1_7, hfp, g116_0]
        refine ⟨⟨_, rfl⟩, hM _ _ ?_⟩
        clear hM M
        refine pops_do rfl rfl (by simp only [upd_at, Nat.reduceEqDiff, if_true, if_false, e1_2, e1_74, e1_75, e1_76, e1_7, hfp, g116_0]) fun M hM => ?_
        simp only [pop, St.eval, constSlot, upd_at, Nat.reduceEqDiff, if_true, if_false, popLoad, loadK, isAggD, List.drop_zero, List.getElem?_toArray, List.getElem?_cons_zero, List.getElem?_cons_succ, Bool.false_eq_true, Tryz.underlying3, sz3, eq_self, true_and, and_true, e1_2, e1_74, e1_75, e1_76, e1_7, hfp, g116_0]
        refine hM _ _ ?_
        clear hM M
        refine pops_do rfl rfl (by simp only [upd_at, Nat.reduceEqDiff, if_true, if_false, e1_2, e1_74, e1_75, e1_76, e1_7, hfp, g116_0]) fun M hM => ?_
        simp only [pop, St.eval, constSlot, upd_at, Nat.reduceEqDiff, if_true, if_false, popCall, List.toList_toArray, List.map_cons, List.map_nil, svs, List.mapM_cons, List.mapM_nil, Option.bind_eq_bind, Option.bind_some, Option.pure_def, List.append_nil, List.cons_append, List.nil_append, str_size, e1_2, e1_74, e1_75, e1_76, e1_7, hfp, g116_0]
        refine PFun.use (withinRef_fun W0 _ _ _) fun h6 s6 => hM _ _ ?_
        replace s6 := Same.trans (Same.refl _) s6
        clear hM M
        refine pops_do rfl rfl (by simp only [upd_at, Nat.reduceEqDiff, if_true, if_false, e1_2, e1_74, e1_75, e1_76, e1_7, hfp, g116_0]) fun M hM => ?_
        simp only [pop, St.eval, constSlot, upd_at, Nat.reduceEqDiff, if_true, if_false, unK, e1_2, e1_74, e1_75, e1_76, e1_7, hfp, g116_0]
        refine hM _ _ ?_
        clear hM M
        refine pops_to rfl fun M hM => ?_
        simp only [pop, St.eval, constSlot, upd_at, Nat.reduceEqDiff, if_true, if_false, popIf, true_implies, false_implies, Bool.true_eq_false, Bool.false_eq_true, reduceCtorEq, true_and, and_true, e1_2, e1_74, e1_75, e1_76, e1_7, hfp, g116_0]
        refine hM _ _ ?_
        clear hM M
        exact pops_done (hJ58 _ _ s6 (wk_same (wk_any ((wk_any ((wk_any ((wk_any ((wk_any (Wk.refl _ _))))))))))))
       ·skip
        intro g116_0 J58 hJ58
        simp only [List.take_succ_cons, List.take_zero]
        simp only [anyAt_cons, anyAt_nil] at hJ58
        refine pops_off (b := true) rfl rfl (by simp only [upd_at, Nat.reduceEqDiff, if_true, if_false, e1_2, e1_74, e1_75, e1_76, e1_7, hfp, g116_0]) (by decide) ?_
        refine pops_off (b := true) rfl rfl (by simp only [upd_at, Nat.reduceEqDiff, if_true, if_false, e1_2, e1_74, e1_75, e1_76, e1_7, hfp, g116_0]) (by decide) ?_
        refine pops_off (b := true) rfl rfl (by simp only [upd_at, Nat.reduceEqDiff, if_true, if_false, e1_2, e1_74, e1_75, e1_76, e1_7, hfp, g116_0]) (by decide) ?_
        refine pops_off (b := true) rfl rfl (by simp only [upd_at, Nat.reduceEqDiff, if_true, if_false, e1_2, e1_74, e1_75, e1_76, e1_7, hfp, g116_0]) (by decide) ?_
        refine pops_off (b := true) rfl rfl (by simp only [upd_at, Nat.reduceEqDiff, if_true, if_false, e1_2, e1_74, e1_75, e1_76, e1_7, hfp, g116_0]) (by decide) ?_
        refine pops_to rfl fun M hM => ?_
        simp only [pop, St.eval, constSlot, upd_at, Nat.reduceEqDiff, if_true, if_false, popIf, true_implies, false_implies, Bool.true_eq_false, Bool.false_eq_true, reduceCtorEq, true_and, and_true, e1_2, e1_74, e1_75, e1_76, e1_7, hfp, g116_0]
        refine hM _ _ ?_
        clear hM M
        exact pops_done (hJ58 _ _ (Same.refl _) (wk_same (wk_any ((wk_any ((wk_any ((wk_any ((wk_any (Wk.refl _ _))))))))))))
       simp only [List.drop_succ_cons, List.drop_zero, anyAt_cons, anyAt_nil]
       intro hj58 sj58
       replace sj58 := Same.trans sj57 sj58
       refine pops_mv (.inl rfl) rfl (by simp only [St.eval, upd_at, Nat.reduceEqDiff, if_true, if_false, e1_2, e1_74, e1_75, e1_76, e1_7, hfp] <;> rfl) ?_
       apply pops_or 6 123 129 [124, 125, 126, 127, 128] (by simp only [upd_at, Nat.reduceEqDiff, if_true, if_false, e1_2, e1_74, e1_75, e1_76, e1_7, hfp] <;> rfl)
       ·skip
        intro g123_0 J59 hJ59
        simp only [List.take_succ_cons, List.take_zero]
        simp only [anyAt_cons, anyAt_nil] at hJ59
        refine pops_mvg (.inl rfl) rfl rfl (by simp only [upd_at, Nat.reduceEqDiff, if_true, if_false, e1_2, e1_74, e1_75, e1_76, e1_7, hfp, g123_0]) (by simp only [St.eval, upd_at, Nat.reduceEqDiff, if_true, if_false, e1_2, e1_74, e1_75, e1_76, e1_7, hfp, g123_0] <;> rfl) ?_
        refine pops_do rfl rfl (by simp only [upd_at, Nat.reduceEqDiff, if_true, if_false, e1_2, e1_74, e1_75, e1_76, e1_7, hfp, g123_0]) fun M hM => ?_
        simp only [pop, St.eval, constSlot, upd_at, Nat.reduceEqDiff, if_true, if_false, popFieldAddr, fieldOf, List.drop_succ_cons, List.drop_zero, List.getElem?_toArray, List.getElem?_cons_zero, List.getElem?_cons_succ, Tryz.underlying23, sz3, e1_2, e1_74, e1_75, e1_76, e1_7, hfp, g123_0]
        refine ⟨⟨_, rfl⟩, hM _ _ ?_⟩
        clear hM M
        refine pops_do rfl rfl (by simp only [upd_at, Nat.reduceEqDiff, if_true, if_false, e1_2, e1_74, e1_75, e1_76, e1_7, hfp, g123_0]) fun M hM => ?_
        simp only [pop, St.eval, constSlot, upd_at, Nat.reduceEqDiff, if_true, if_false, popLoad, loadK, isAggD, List.drop_zero, List.getElem?_toArray, List.getElem?_cons_zero, List.getElem?_cons_succ, Bool.false_eq_true, Tryz.underlying3, sz3, eq_self, true_and, and_true, e1_2, e1_74, e1_75, e1_76, e1_7, hfp, g123_0]
        refine hM _ _ ?_
        clear hM M
        refine pops_do rfl rfl (by simp only [upd_at, Nat.reduceEqDiff, if_true, if_false, e1_2, e1_74, e1_75, e1_76, e1_7, hfp, g123_0]) fun M hM => ?_
        simp only [pop, St.eval, constSlot, upd_at, Nat.reduceEqDiff, if_true, if_false, popCall, List.toList_toArray, List.map_cons, List.map_nil, svs, List.mapM_cons, List.mapM_nil, Option.bind_eq_bind, Option.bind_some, Option.pure_def, List.append_nil, List.cons_append, List.nil_append, str_size, e1_2, e1_74, e1_75, e1_76, e1_7, hfp, g123_0]
        refine PFun.use (withinRef_fun W0 _ _ _) fun h7 s7 => hM _ _ ?_
        replace s7 := Same.trans (Same.refl _) s7
        clear hM M
        refine pops_do rfl rfl (by simp only [upd_at, Nat.reduceEqDiff, if_true, if_false, e1_2, e1_74, e1_75, e1_76, e1_7, hfp, g123_0]) fun M hM => ?_
        simp only [pop, St.eval, constSlot, upd_at, Nat.reduceEqDiff, if_true, if_false, unK, e1_2, e1_74, e1_75, e1_76, e1_7, hfp, g123_0]
        refine hM _ _ ?_
        clear hM M
        refine pops_to rfl fun M hM => ?_
        simp only [pop, St.eval, constSlot, upd_at, Nat.reduceEqDiff, if_true, if_false, popIf, true_implies, false_implies, Bool.true_eq_false, Bool.false_eq_true, reduceCtorEq, true_and, and_true, e1_2, e1_74, e1_75, e1_76, e1_7, hfp, g123_0]
        refine hM _ _ ?_
        clear hM M
        exact pops_done (hJ59 _ _ s7 (wk_same (wk_any ((wk_any ((wk_any ((wk_any ((wk_any (Wk.refl _ _))))))))))))
       ·skip
        intro g123_0 J59 hJ59
        simp only [List.take_succ_cons, List.take_zero]
        simp only [anyAt_cons, anyAt_nil] at hJ59
        refine pops_off (b := true) rfl rfl (by simp only [upd_at, Nat.reduceEqDiff, if_true, if_false, e1_2, e1_74, e1_75, e1_76, e1_7, hfp, g123_0]) (by decide) ?_
        refine pops_off (b := true) rfl rfl (by simp only [upd_at, Nat.reduceEqDiff, if_true, if_false, e1_2, e1_74, e1_75, e1_76, e1_7, hfp, g123_0]) (by decide) ?_
        refine pops_off (b := true) rfl rfl (by simp only [upd_at, Nat.reduceEqDiff, if_true, if_false, e1_2, e1_74, e1_75, e1_76, e1_7, hfp, g123_0]) (by decide) ?_
        refine pops_off (b := true) rfl rfl (by simp only [upd_at, Nat.reduceEqDiff, if_true, if_false, e1_2, e1_74, e1_75, e1_76, e1_7, hfp, g123_0]) (by decide) ?_
        refine pops_off (b := true) rfl rfl (by simp only [upd_at, Nat.reduceEqDiff, if_true, if_false, e1_2, e1_74, e1_75, e1_76, e1_7, hfp, g123_0]) (by decide) ?_
        refine pops_to rfl fun M hM => ?_
        simp only [pop, St.eval, constSlot, upd_at, Nat.reduceEqDiff, if_true, if_false, popIf, true_implies, false_implies, Bool.true_eq_false, Bool.false_eq_true, reduceCtorEq, true_and, and_true, e1_2, e1_74, e1_75, e1_76, e1_7, hfp, g123_0]
        refine hM _ _ ?_
        clear hM M
        exact pops_done (hJ59 _ _ (Same.refl _) (wk_same (wk_any ((wk_any ((wk_any ((wk_any ((wk_any (Wk.refl _ _))))))))))))
       simp only [List.drop_succ_cons, List.drop_zero, anyAt_cons, anyAt_nil]
       intro hj59 sj59
       replace sj59 := Same.trans sj58 sj59
       refine pops_mv (.inl rfl) rfl (by simp only [St.eval, upd_at, Nat.reduceEqDiff, if_true, if_false, e1_2, e1_74, e1_75, e1_76, e1_7, hfp] <;> rfl) ?_
       apply pops_or 9 130 139 [131, 132, 133, 134, 135, 136, 137, 138] (by simp only [upd_at, Nat.reduceEqDiff, if_true, if_false, e1_2, e1_74, e1_75, e1_76, e1_7, hfp] <;> rfl)
       ·skip
        intro g130_0 J60 hJ60
        simp only [List.take_succ_cons, List.take_zero]
        simp only [anyAt_cons, anyAt_nil] at hJ60
        refine pops_mvg (.inl rfl) rfl rfl (by simp only [upd_at, Nat.reduceEqDiff, if_true, if_false, e1_2, e1_74, e1_75, e1_76, e1_7, hfp, g130_0]) (by simp only [St.eval, upd_at, Nat.reduceEqDiff, if_true, if_false, e1_2, e1_74, e1_75, e1_76, e1_7, hfp, g130_0] <;> rfl) ?_
        refine pops_do rfl rfl (by simp only [upd_at, Nat.reduceEqDiff, if_true, if_false, e1_2, e1_74, e1_75, e1_76, e1_7, hfp, g130_0]) fun M hM => ?_
        simp only [pop, St.eval, constSlot, upd_at, Nat.reduceEqDiff, if_true, if_false, popFieldAddr, fieldOf, List.drop_succ_cons, List.drop_zero, List.getElem?_toArray, List.getElem?_cons_zero, List.getElem?_cons_succ, Tryz.underlying23, sz3, e1_2, e1_74, e1_75, e1_76, e1_7, hfp, g130_0]
        refine ⟨⟨_, rfl⟩, hM _ _ ?_⟩
        clear hM M
        refine pops_do rfl rfl (by simp only [upd_at, Nat.reduceEqDiff, if_true, if_false, e1_2, e1_74, e1_75, e1_76, e1_7, hfp, g130_0]) fun M hM => ?_
        simp only [pop, St.eval, constSlot, upd_at, Nat.reduceEqDiff, if_true, if_false, popLoad, loadK, isAggD, List.drop_zero, List.getElem?_toArray, List.getElem?_cons_zero, List.getElem?_cons_succ, Bool.false_eq_true, Tryz.underlying3, sz3, eq_self, true_and, and_true, e1_2, e1_74, e1_75, e1_76, e1_7, hfp, g130_0]
        refine hM _ _ ?_
        clear hM M
        refine pops_do rfl rfl (by simp only [upd_at, Nat.reduceEqDiff, if_true, if_false, e1_2, e1_74, e1_75, e1_76, e1_7, hfp, g130_0]) fun M hM => ?_
        simp only [pop, St.eval, constSlot, upd_at, Nat.reduceEqDiff, if_true, if_false, popFieldAddr, fieldOf, List.drop_succ_cons, List.drop_zero, List.getElem?_toArray, List.getElem?_cons_zero, List.getElem?_cons_succ, Tryz.underlying23, sz3, e1_2, e1_74, e1_75, e1_76, e1_7, hfp, g130_0]
        refine ⟨⟨_, rfl⟩, hM _ _ ?_⟩
        clear hM M
        refine pops_do rfl rfl (by simp only [upd_at, Nat.reduceEqDiff, if_true, if_false, e1_2, e1_74, e1_75, e1_76, e1_7, hfp, g130_0]) fun M hM => ?_
        simp only [pop, St.eval, constSlot, upd_at, Nat.reduceEqDiff, if_true, if_false, popLoad, loadK, isAggD, List.drop_zero, List.getElem?_toArray, List.getElem?_cons_zero, List.getElem?_cons_succ, Bool.false_eq_true, Tryz.underlying3, sz3, eq_self, true_and, and_true, e1_2, e1_74, e1_75, e1_76, e1_7, hfp, g130_0]
        refine hM _ _ ?_
        clear hM M
        refine pops_do rfl rfl (by simp only [upd_at, Nat.reduceEqDiff, if_true, if_false, e1_2, e1_74, e1_75, e1_76, e1_7, hfp, g130_0]) fun M hM => ?_
        simp only [pop, St.eval, constSlot, upd_at, Nat.reduceEqDiff, if_true, if_false, popCall, List.toList_toArray, List.map_cons, List.map_nil, popBuiltin, eq_self, true_and, and_true, str_list, str_size, str_app, str_cut, str_get, e1_2, e1_74, e1_75, e1_76, e1_7, hfp, g130_0]
        refine hM _ _ ?_
        clear hM M
        refine pops_do rfl rfl (by simp only [upd_at, Nat.reduceEqDiff, if_true, if_false, e1_2, e1_74, e1_75, e1_76, e1_7, hfp, g130_0]) fun M hM => ?_
        simp only [pop, St.eval, constSlot, upd_at, Nat.reduceEqDiff, if_true, if_false, popCall, List.toList_toArray, List.map_cons, List.map_nil, svs, List.mapM_cons, List.mapM_nil, Option.bind_eq_bind, Option.bind_some, Option.pure_def, List.append_nil, List.cons_append, List.nil_append, str_size, e1_2, e1_74, e1_75, e1_76, e1_7, hfp, g130_0]
        refine PFun.use (withinRef_fun W0 _ _ _) fun h8 s8 => hM _ _ ?_
        replace s8 := Same.trans (Same.refl _) s8
        clear hM M
        refine pops_do rfl rfl (by simp only [upd_at, Nat.reduceEqDiff, if_true, if_false, e1_2, e1_74, e1_75, e1_76, e1_7, hfp, g130_0]) fun M hM => ?_
        simp only [pop, St.eval, constSlot, upd_at, Nat.reduceEqDiff, if_true, if_false, unK, e1_2, e1_74, e1_75, e1_76, e1_7, hfp, g130_0]
        refine hM _ _ ?_
        clear hM M
        refine pops_to rfl fun M hM => ?_
        simp only [pop, St.eval, constSlot, upd_at, Nat.reduceEqDiff, if_true, if_false, popIf, true_implies, false_implies, Bool.true_eq_false, Bool.false_eq_true, reduceCtorEq, true_and, and_true, e1_2, e1_74, e1_75, e1_76, e1_7, hfp, g130_0]
        refine hM _ _ ?_
        clear hM M
        exact pops_done (hJ60 _ _ s8 (wk_same (wk_any ((wk_any ((wk_any ((wk_any ((wk_any ((wk_any ((wk_any ((wk_any (Wk.refl _ _))))))))))))))))))
       ·skip
        intro g130_0 J60 hJ60
        simp only [List.take_succ_cons, List.take_zero]
        simp only [anyAt_cons, anyAt_nil] at hJ60
        refine pops_off (b := true) rfl rfl (by simp only [upd_at, Nat.reduceEqDiff, if_true, if_false, e1_2, e1_74, e1_75, e1_76, e1_7, hfp, g130_0]) (by decide) ?_
        refine pops_off (b := true) rfl rfl (by simp only [upd_at, Nat.reduceEqDiff, if_true, if_false, e1_2, e1_74, e1_75, e1_76, e1_7, hfp, g130_0]) (by decide) ?_
        refine pops_off (b := true) rfl rfl (by simp only [upd_at, Nat.reduceEqDiff, if_true, if_false, e1_2, e1_74, e1_75, e1_76, e1_7, hfp, g130_0]) (by decide) ?_
        refine pops_off (b := true) rfl rfl (by simp only [upd_at, Nat.reduceEqDiff, if_true, if_false, e1_2, e1_74, e1_75, e1_76, e1_7, hfp, g130_0]) (by decide) ?_
        refine pops_off (b := true) rfl rfl (by simp only [upd_at, Nat.reduceEqDiff, if_true, if_false, e1_2, e1_74, e1_75, e1_76, e1_7, hfp, g130_0]) (by decide) ?_
        refine pops_off (b := true) rfl rfl (by simp only [upd_at, Nat.reduceEqDiff, if_true, if_false, e1_2, e1_74, e1_75, e1_76, e1_7, hfp, g130_0]) (by decide) ?_
        refine pops_off (b := true) rfl rfl (by simp only [upd_at, Nat.reduceEqDiff, if_true, if_false, e1_2, e1_74, e1_75, e1_76, e1_7, hfp, g130_0]) (by decide) ?_
        refine pops_off (b := true) rfl rfl (by simp only [upd_at, Nat.reduceEqDiff, if_true, if_false, e1_2, e1_74, e1_75, e1_76, e1_7, hfp, g130_0]) (by decide) ?_
        refine pops_to rfl fun M hM => ?_
        simp only [pop, St.eval, constSlot, upd_at, Nat.reduceEqDiff, if_true, if_false, popIf, true_implies, false_implies, Bool.true_eq_false, Bool.false_eq_true, reduceCtorEq, true_and, and_true, e1_2, e1_74, e1_75, e1_76, e1_7, hfp, g130_0]
        refine hM _ _ ?_
        clear hM M
        exact pops_done (hJ60 _ _ (Same.refl _) (wk_same (wk_any ((wk_any ((wk_any ((wk_any ((wk_any ((wk_any ((wk_any ((wk_any (Wk.refl _ _))))))))))))))))))
       simp only [List.drop_succ_cons, List.drop_zero, anyAt_cons, anyAt_nil]
       intro hj60 sj60
       replace sj60 := Same.trans sj59 sj60
       refine pops_done (hR55 _ ?_)
       clear hR55 R55
       try simp only [thenK, scopeK]
       refine hN54 _ ?_
       clear hN54 N54
       refine pwp_cond (by simp only [St.eval, upd_at, Nat.reduceEqDiff, if_true, if_false, e1_2, e1_74, e1_75, e1_76, e1_7, hfp] <;> rfl) (fun c139 => ?_) (fun c139 => ?_)
       ·skip
        have he := featE_7 hF6 hF5 c139
        refine pwp_then fun N61 hN61 => ?_
        refine pwp_reg fun R62 hR62 => ?_
        refine pops_mv (.inr rfl) rfl (by simp only [St.eval, constSlot] <;> rfl) ?_
        refine pops_done (hR62 _ ?_)
        clear hR62 R62
        try simp only [thenK, scopeK]
        refine hN61 _ ?_
        clear hN61 N61
        refine pwp_ret ?_
        simp only [thenK, blockK, scopeK, bodyK]
        clear hN53 N53
        refine ⟨_, rfl, endFun sj60 ?_⟩
        try simp only [upd_at, Nat.reduceEqDiff, if_true, if_false, e1_2, e1_74, e1_75, e1_76, e1_7, hfp]
        all_goals
         rw [he]
       ·skip
        have he := featE_0 hF6 hF5 c139
        refine pwp_skip ?_
        try simp only [thenK, scopeK]
        refine hN53 _ ?_
        clear hN53 N53
        refine pwp_then fun N63 hN63 => ?_
        refine pwp_reg fun R64 hR64 => ?_
        refine pops_mv (.inr rfl) rfl (by simp only [St.eval, constSlot] <;> rfl) ?_
        refine pops_done (hR64 _ ?_)
        clear hR64 R64
        try simp only [thenK, scopeK]
        refine hN63 _ ?_
        clear hN63 N63
        refine pwp_ret ?_
        simp only [thenK, blockK, scopeK, bodyK]
        refine ⟨_, rfl, endFun sj60 ?_⟩
        try simp only [upd_at, Nat.reduceEqDiff, if_true, if_false, e1_2, e1_74, e1_75, e1_76, e1_7, hfp]
        all_goals
         rw [he]
end Go.Pw
