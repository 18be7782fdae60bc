import Derived.Test.YtomkpdnnimcapaaDoorNames
import Derived.Test.YtomkpdnnimcapaaDoorGf
import Derived.Test.YtomkpdnnimcapaaDoorPwY
namespace Go.Pw
open Go Go.RowKit Go.Proofs
set_option maxRecDepth 100000
set_option linter.unusedSimpArgs false
set_option linter.unusedVariables false

theorem u8_wrap {n : Nat} (h : n < 256) : IntKind.u8.wrap (n : Int) = n := by
  simp [IntKind.wrap, IntKind.bits, IntKind.signed]; omega
theorem u8_xor (a b : UInt8) : IntKind.u8.wrap ((BitVec.ofInt IntKind.u8.bits (a.toNat : Int) ^^^ BitVec.ofInt IntKind.u8.bits (b.toNat : Int)).toNat : Int) = ((a ^^^ b).toNat : Int) := by
  have e : ∀ c : UInt8, BitVec.ofInt IntKind.u8.bits (c.toNat : Int) = c.toBitVec := fun c => by
    apply BitVec.eq_of_toNat_eq
    have := c.toNat_lt
    simp [IntKind.bits, BitVec.toNat_ofInt] <;> omega
  rw [e, e, u8_wrap (BitVec.isLt _)]
  rfl
theorem u8_and (a b : UInt8) : IntKind.u8.wrap ((BitVec.ofInt IntKind.u8.bits (a.toNat : Int) &&& BitVec.ofInt IntKind.u8.bits (b.toNat : Int)).toNat : Int) = ((a &&& b).toNat : Int) := by
  have e : ∀ c : UInt8, BitVec.ofInt IntKind.u8.bits (c.toNat : Int) = c.toBitVec := fun c => by
    apply BitVec.eq_of_toNat_eq
    have := c.toNat_lt
    simp [IntKind.bits, BitVec.toNat_ofInt] <;> omega
  rw [e, e, u8_wrap (BitVec.isLt _)]
  rfl
theorem u8_xor27 (a : UInt8) : IntKind.u8.wrap ((BitVec.ofInt IntKind.u8.bits (a.toNat : Int) ^^^ BitVec.ofInt IntKind.u8.bits 27).toNat : Int) = ((a ^^^ 27).toNat : Int) := u8_xor a 27
theorem u8_and1 (a : UInt8) : IntKind.u8.wrap ((BitVec.ofInt IntKind.u8.bits (a.toNat : Int) &&& BitVec.ofInt IntKind.u8.bits 1).toNat : Int) = ((a &&& 1).toNat : Int) := u8_and a 1
theorem u8_and128 (a : UInt8) : IntKind.u8.wrap ((BitVec.ofInt IntKind.u8.bits (a.toNat : Int) &&& BitVec.ofInt IntKind.u8.bits 128).toNat : Int) = ((a &&& 128).toNat : Int) := u8_and a 128
theorem u8_shl (a : UInt8) : IntKind.u8.wrap ((a.toNat : Int) * 2 ^ (min (1 : Int).toNat IntKind.u8.bits)) = ((a <<< 1).toNat : Int) := by
  have h := Gf.all1 (Q := fun a => (a <<< 1).toNat = a.toNat * 2 % 256) (by decide +kernel) a
  rw [h]
  simp [IntKind.wrap, IntKind.bits, IntKind.signed]
theorem u8_shr (a : UInt8) : (a.toNat : Int).fdiv (2 ^ (min (1 : Int).toNat IntKind.u8.bits)) = ((a >>> 1).toNat : Int) := by
  have h := Gf.all1 (Q := fun a => (a >>> 1).toNat = a.toNat / 2) (by decide +kernel) a
  rw [h, show (2 : Int) ^ (min (1 : Int).toNat IntKind.u8.bits) = 2 from rfl, Int.fdiv_eq_ediv_of_nonneg _ (by decide)]
  omega
theorem i64_shr1 (n : Nat) : (n : Int).fdiv (2 ^ (min (1 : Int).toNat IntKind.i64.bits)) = ((n / 2 : Nat) : Int) := by
  rw [show (2 : Int) ^ (min (1 : Int).toNat IntKind.i64.bits) = 2 from rfl, Int.fdiv_eq_ediv_of_nonneg _ (by decide)]
  omega
theorem i64_and1 (n : Nat) (h : n < 1024) : IntKind.i64.wrap ((BitVec.ofInt IntKind.i64.bits (n : Int) &&& BitVec.ofInt IntKind.i64.bits 1).toNat : Int) = ((n % 2 : Nat) : Int) :=
  (by decide +kernel : ∀ n : Fin 1024, IntKind.i64.wrap ((BitVec.ofInt IntKind.i64.bits (n.1 : Int) &&& BitVec.ofInt IntKind.i64.bits 1).toNat : Int) = ((n.1 % 2 : Nat) : Int)) ⟨n, h⟩
theorem tm_zero (o x : UInt8) : ∀ n : Nat, Gf.tm n o x 0 = o := by
  intro n
  induction n generalizing x with
  | zero => rfl
  | succ n ih => exact ih _
theorem ivl_zero (o : UInt8) : ∀ (n : Nat) (x : UInt8), Gf.ivl n 0 o x = o
  | 0, _ => rfl
  | n + 1, x => ivl_zero o n _
theorem u8_eq0 {y : UInt8} (h : ¬ (y.toNat : Int) > 0) : y = 0 := by
  apply UInt8.toNat_inj.1
  show y.toNat = 0
  omega
theorem u8_half {y : UInt8} {n : Nat} (h : y.toNat < 2 ^ (n + 1)) : (y >>> 1).toNat < 2 ^ n := by
  have e := Gf.all1 (Q := fun a => (a >>> 1).toNat = a.toNat / 2) (by decide +kernel) y
  rw [e]
  rw [Nat.pow_succ] at h
  omega
theorem bit1 {y : UInt8} (h : (((y &&& 1).toNat : Int) == 1) = true) : y &&& 1 = 1 := by
  apply UInt8.toNat_inj.1
  have := eq_of_beq h
  show _ = 1
  omega
theorem bit0 {y : UInt8} (h : (((y &&& 1).toNat : Int) == 1) = false) : ¬ y &&& 1 = 1 := fun e => by
  rw [e] at h
  exact absurd h (by decide)
theorem hi1 {x : UInt8} (h : (x &&& 128).toNat > 0) : Gf.xt x = (x <<< 1) ^^^ 27 := Gf.all1 (Q := fun x => (x &&& 128).toNat > 0 → Gf.xt x = (x <<< 1) ^^^ 27) (by decide +kernel) x h
theorem hi0 {x : UInt8} (h : ¬ (x &&& 128).toNat > 0) : Gf.xt x = x <<< 1 := Gf.all1 (Q := fun x => ¬ (x &&& 128).toNat > 0 → Gf.xt x = x <<< 1) (by decide +kernel) x h
theorem nm9 : (Tryd.f9.name == "runtime.NumGoroutine") = false := by kernel_rfl
theorem times_fun (W0 : World) (a b : UInt8) :
  PFun Tryd.prog W0 9 [.one (pbyte a), .one (pbyte b)] (.sv (.one (pbyte (Gf.gm a b)))) := by
 intro h
 refine pcalls2 (n := 26) Tryd.func9 rfl nm9 rfl fun hb => ?_
 refine pwp_then fun N1 hN1 => ?_
 refine pwp_reg fun R2 hR2 => ?_
 refine pops_mv (.inr rfl) rfl (by simp only [St.eval, constSlot] <;> rfl) ?_
 refine pops_done (hR2 _ ?_)
 clear hR2 R2
 try simp only [thenK, scopeK]
 refine hN1 _ ?_
 clear hN1 N1
 refine pwp_then fun N3 hN3 => ?_
 refine pwp_reg fun R4 hR4 => ?_
 refine pops_mv (.inr rfl) rfl (by simp only [St.eval, constSlot] <;> rfl) ?_
 refine pops_done (hR4 _ ?_)
 clear hR4 R4
 try simp only [thenK, scopeK]
 refine hN3 _ ?_
 clear hN3 N3
 refine pwp_then fun N5 hN5 => ?_
 refine pwp_block ?_
 refine pwp_loop (fun k σ => ∃ (n : Nat), ∃ (o : UInt8), ∃ (x : UInt8), ∃ (y : UInt8), (k = n) ∧ (Gf.tm n o x y = Gf.gm a b) ∧ (y.toNat < 2 ^ n) ∧ (Same h σ.hp) ∧ (σ.env 0 = .sv (.one (pbyte x))) ∧ (σ.env 1 = .sv (.one (pbyte y))) ∧ (σ.env 5 = .sv (.one (pbyte o)))) _ ⟨_, .refl _ _, 8, 0, a, b, rfl, ?_⟩ ?_
 · exact ⟨rfl, b.toNat_lt, (Same.refl _), by simp only [upd_at, Nat.reduceEqDiff, if_true, if_false], by simp only [upd_at, Nat.reduceEqDiff, if_true, if_false], by first | rfl | (simp only [upd_at, Nat.reduceEqDiff, if_true, if_false]; rfl)⟩
 ·rintro k ⟨e, hp0⟩ ⟨n, o, x, y, hk0, hx0_0, hx0_1, sl0, e0_0, e0_1, e0_5⟩
  simp only at sl0 e0_0 e0_1 e0_5
  refine pwp_then fun N6 hN6 => ?_
  refine pwp_then fun N7 hN7 => ?_
  refine pwp_reg fun R8 hR8 => ?_
  refine pops_mv (.inl rfl) rfl (by simp only [St.eval, upd_at, Nat.reduceEqDiff, if_true, if_false, e0_0, e0_1, e0_5] <;> rfl) ?_
  refine pops_to rfl fun M hM => ?_
  simp only [pop, St.eval, constSlot, upd_at, Nat.reduceEqDiff, if_true, if_false, popBin, binK, intK, strK, eqK, eq_self, true_and, and_true, e0_0, e0_1, e0_5]
  refine hM _ _ ?_
  clear hM M
  refine pops_done (hR8 _ ?_)
  clear hR8 R8
  try simp only [thenK, scopeK]
  refine hN7 _ ?_
  clear hN7 N7
  refine pwp_cond (by simp only [St.eval, upd_at, Nat.reduceEqDiff, if_true, if_false, e0_0, e0_1, e0_5] <;> rfl) (fun c8 => ?_) (fun c8 => ?_)
  ·skip
   have hpos := of_decide_eq_true c8
   obtain ⟨n, rfl⟩ : ∃ k, n = k + 1 := ⟨n - 1, by rcases n with _ | n; simp at hx0_1; omega; omega⟩
   refine pwp_skip ?_
   try simp only [thenK, scopeK]
   refine hN6 _ ?_
   clear hN6 N6
   refine pwp_then fun N9 hN9 => ?_
   refine pwp_block ?_
   refine pwp_then fun N10 hN10 => ?_
   refine pwp_then fun N11 hN11 => ?_
   refine pwp_reg fun R12 hR12 => ?_
   refine pops_mv (.inl rfl) rfl (by simp only [St.eval, upd_at, Nat.reduceEqDiff, if_true, if_false, e0_0, e0_1, e0_5] <;> rfl) ?_
   refine pops_to rfl fun M hM => ?_
   simp only [pop, St.eval, constSlot, upd_at, Nat.reduceEqDiff, if_true, if_false, popBin, binK, intK, strK, eqK, eq_self, true_and, and_true, e0_0, e0_1, e0_5, u8_and1]
   refine hM _ _ ?_
   clear hM M
   refine pops_to rfl fun M hM => ?_
   simp only [pop, St.eval, constSlot, upd_at, Nat.reduceEqDiff, if_true, if_false, popBin, binK, intK, strK, eqK, Tryd.underlying5, isPtr, eq_self, true_and, and_true, e0_0, e0_1, e0_5]
   refine hM _ _ ?_
   clear hM M
   refine pops_done (hR12 _ ?_)
   clear hR12 R12
   try simp only [thenK, scopeK]
   refine hN11 _ ?_
   clear hN11 N11
   refine pwp_cond (by simp only [St.eval, upd_at, Nat.reduceEqDiff, if_true, if_false, e0_0, e0_1, e0_5] <;> rfl) (fun c13 => ?_) (fun c13 => ?_)
   ·skip
    have hb1 := bit1 c13
    refine pwp_reg fun R13 hR13 => ?_
    refine pops_mv (.inl rfl) rfl (by simp only [St.eval, upd_at, Nat.reduceEqDiff, if_true, if_false, e0_0, e0_1, e0_5] <;> rfl) ?_
    refine pops_mv (.inl rfl) rfl (by simp only [St.eval, upd_at, Nat.reduceEqDiff, if_true, if_false, e0_0, e0_1, e0_5] <;> rfl) ?_
    refine pops_to rfl fun M hM => ?_
    simp only [pop, St.eval, constSlot, upd_at, Nat.reduceEqDiff, if_true, if_false, popBin, binK, intK, strK, eqK, eq_self, true_and, and_true, e0_0, e0_1, e0_5, u8_xor]
    refine hM _ _ ?_
    clear hM M
    refine pops_mv (.inr rfl) rfl (by simp only [St.eval, upd_at, Nat.reduceEqDiff, if_true, if_false, e0_0, e0_1, e0_5] <;> rfl) ?_
    refine pops_done (hR13 _ ?_)
    clear hR13 R13
    try simp only [thenK, scopeK]
    refine hN10 _ ?_
    clear hN10 N10
    refine pwp_then fun N14 hN14 => ?_
    refine pwp_reg fun R15 hR15 => ?_
    refine pops_mv (.inl rfl) rfl (by simp only [St.eval, upd_at, Nat.reduceEqDiff, if_true, if_false, e0_0, e0_1, e0_5] <;> rfl) ?_
    refine pops_to rfl fun M hM => ?_
    simp only [pop, St.eval, constSlot, upd_at, Nat.reduceEqDiff, if_true, if_false, popBin, binK, intK, strK, eqK, eq_self, true_and, and_true, e0_0, e0_1, e0_5, u8_and128]
    refine hM _ _ ?_
    clear hM M
    refine pops_mv (.inr rfl) rfl (by simp only [St.eval, upd_at, Nat.reduceEqDiff, if_true, if_false, e0_0, e0_1, e0_5] <;> rfl) ?_
    refine pops_done (hR15 _ ?_)
    clear hR15 R15
    try simp only [thenK, scopeK]
    refine hN14 _ ?_
    clear hN14 N14
    refine pwp_then fun N16 hN16 => ?_
    refine pwp_reg fun R17 hR17 => ?_
    refine pops_mv (.inl rfl) rfl (by simp only [St.eval, upd_at, Nat.reduceEqDiff, if_true, if_false, e0_0, e0_1, e0_5] <;> rfl) ?_
    refine pops_to rfl fun M hM => ?_
    simp only [pop, St.eval, constSlot, upd_at, Nat.reduceEqDiff, if_true, if_false, popBin, binK, intK, strK, eqK, eq_self, true_and, and_true, e0_0, e0_1, e0_5, u8_shl]
    refine ⟨by decide, hM _ _ ?_⟩
    clear hM M
    refine pops_mv (.inr rfl) rfl (by simp only [St.eval, upd_at, Nat.reduceEqDiff, if_true, if_false, e0_0, e0_1, e0_5] <;> rfl) ?_
    refine pops_done (hR17 _ ?_)
    clear hR17 R17
    try simp only [thenK, scopeK]
    refine hN16 _ ?_
    clear hN16 N16
    refine pwp_then fun N18 hN18 => ?_
    refine pwp_reg fun R19 hR19 => ?_
    refine pops_mv (.inl rfl) rfl (by simp only [St.eval, upd_at, Nat.reduceEqDiff, if_true, if_false, e0_0, e0_1, e0_5] <;> rfl) ?_
    refine pops_to rfl fun M hM => ?_
    simp only [pop, St.eval, constSlot, upd_at, Nat.reduceEqDiff, if_true, if_false, popBin, binK, intK, strK, eqK, eq_self, true_and, and_true, e0_0, e0_1, e0_5]
    refine hM _ _ ?_
    clear hM M
    refine pops_done (hR19 _ ?_)
    clear hR19 R19
    try simp only [thenK, scopeK]
    refine hN18 _ ?_
    clear hN18 N18
    refine pwp_cond (by simp only [St.eval, upd_at, Nat.reduceEqDiff, if_true, if_false, e0_0, e0_1, e0_5] <;> rfl) (fun c22 => ?_) (fun c22 => ?_)
    ·skip
     have hx := hi1 (x := x) (by have := of_decide_eq_true c22; omega)
     refine pwp_reg fun R20 hR20 => ?_
     refine pops_mv (.inl rfl) rfl (by simp only [St.eval, upd_at, Nat.reduceEqDiff, if_true, if_false, e0_0, e0_1, e0_5] <;> rfl) ?_
     refine pops_to rfl fun M hM => ?_
     simp only [pop, St.eval, constSlot, upd_at, Nat.reduceEqDiff, if_true, if_false, popBin, binK, intK, strK, eqK, eq_self, true_and, and_true, e0_0, e0_1, e0_5, u8_xor27]
     refine hM _ _ ?_
     clear hM M
     refine pops_mv (.inr rfl) rfl (by simp only [St.eval, upd_at, Nat.reduceEqDiff, if_true, if_false, e0_0, e0_1, e0_5] <;> rfl) ?_
     refine pops_done (hR20 _ ?_)
     clear hR20 R20
     try simp only [blockK, thenK, scopeK]
     try simp only [thenK, scopeK]
     refine hN9 _ ?_
     clear hN9 N9
     refine pwp_reg fun R21 hR21 => ?_
     refine pops_mv (.inl rfl) rfl (by simp only [St.eval, upd_at, Nat.reduceEqDiff, if_true, if_false, e0_0, e0_1, e0_5] <;> rfl) ?_
     refine pops_to rfl fun M hM => ?_
     simp only [pop, St.eval, constSlot, upd_at, Nat.reduceEqDiff, if_true, if_false, popBin, binK, intK, strK, eqK, eq_self, true_and, and_true, e0_0, e0_1, e0_5, u8_shr]
     refine ⟨by decide, hM _ _ ?_⟩
     clear hM M
     refine pops_mv (.inr rfl) rfl (by simp only [St.eval, upd_at, Nat.reduceEqDiff, if_true, if_false, e0_0, e0_1, e0_5] <;> rfl) ?_
     refine pops_done (hR21 _ ?_)
     clear hR21 R21
     try simp only [thenK, scopeK]
     exact ⟨_, by omega, _, .refl _ _, n, (o ^^^ x), ((x <<< 1) ^^^ 27), (y >>> 1), rfl, by rw [← hx0_0]; simp only [Gf.tm]; rw [if_pos hb1, hx], u8_half hx0_1, sl0, by simp only [upd_at, Nat.reduceEqDiff, if_true, if_false, e0_0, e0_1, e0_5], by simp only [upd_at, Nat.reduceEqDiff, if_true, if_false, e0_0, e0_1, e0_5], by simp only [upd_at, Nat.reduceEqDiff, if_true, if_false, e0_0, e0_1, e0_5]⟩
    ·skip
     have hx := hi0 (x := x) (by have := of_decide_eq_false c22; omega)
     refine pwp_skip ?_
     try simp only [blockK, thenK, scopeK]
     try simp only [thenK, scopeK]
     refine hN9 _ ?_
     clear hN9 N9
     refine pwp_reg fun R22 hR22 => ?_
     refine pops_mv (.inl rfl) rfl (by simp only [St.eval, upd_at, Nat.reduceEqDiff, if_true, if_false, e0_0, e0_1, e0_5] <;> rfl) ?_
     refine pops_to rfl fun M hM => ?_
     simp only [pop, St.eval, constSlot, upd_at, Nat.reduceEqDiff, if_true, if_false, popBin, binK, intK, strK, eqK, eq_self, true_and, and_true, e0_0, e0_1, e0_5, u8_shr]
     refine ⟨by decide, hM _ _ ?_⟩
     clear hM M
     refine pops_mv (.inr rfl) rfl (by simp only [St.eval, upd_at, Nat.reduceEqDiff, if_true, if_false, e0_0, e0_1, e0_5] <;> rfl) ?_
     refine pops_done (hR22 _ ?_)
     clear hR22 R22
     try simp only [thenK, scopeK]
     exact ⟨_, by omega, _, .refl _ _, n, (o ^^^ x), (x <<< 1), (y >>> 1), rfl, by rw [← hx0_0]; simp only [Gf.tm]; rw [if_pos hb1, hx], u8_half hx0_1, sl0, by simp only [upd_at, Nat.reduceEqDiff, if_true, if_false, e0_0, e0_1, e0_5], by simp only [upd_at, Nat.reduceEqDiff, if_true, if_false, e0_0, e0_1, e0_5], by simp only [upd_at, Nat.reduceEqDiff, if_true, if_false, e0_0, e0_1, e0_5]⟩
   ·skip
    have hb0 := bit0 c13
    refine pwp_skip ?_
    try simp only [thenK, scopeK]
    refine hN10 _ ?_
    clear hN10 N10
    refine pwp_then fun N23 hN23 => ?_
    refine pwp_reg fun R24 hR24 => ?_
    refine pops_mv (.inl rfl) rfl (by simp only [St.eval, upd_at, Nat.reduceEqDiff, if_true, if_false, e0_0, e0_1, e0_5] <;> rfl) ?_
    refine pops_to rfl fun M hM => ?_
    simp only [pop, St.eval, constSlot, upd_at, Nat.reduceEqDiff, if_true, if_false, popBin, binK, intK, strK, eqK, eq_self, true_and, and_true, e0_0, e0_1, e0_5, u8_and128]
    refine hM _ _ ?_
    clear hM M
    refine pops_mv (.inr rfl) rfl (by simp only [St.eval, upd_at, Nat.reduceEqDiff, if_true, if_false, e0_0, e0_1, e0_5] <;> rfl) ?_
    refine pops_done (hR24 _ ?_)
    clear hR24 R24
    try simp only [thenK, scopeK]
    refine hN23 _ ?_
    clear hN23 N23
    refine pwp_then fun N25 hN25 => ?_
    refine pwp_reg fun R26 hR26 => ?_
    refine pops_mv (.inl rfl) rfl (by simp only [St.eval, upd_at, Nat.reduceEqDiff, if_true, if_false, e0_0, e0_1, e0_5] <;> rfl) ?_
    refine pops_to rfl fun M hM => ?_
    simp only [pop, St.eval, constSlot, upd_at, Nat.reduceEqDiff, if_true, if_false, popBin, binK, intK, strK, eqK, eq_self, true_and, and_true, e0_0, e0_1, e0_5, u8_shl]
    refine ⟨by decide, hM _ _ ?_⟩
    clear hM M
    refine pops_mv (.inr rfl) rfl (by simp only [St.eval, upd_at, Nat.reduceEqDiff, if_true, if_false, e0_0, e0_1, e0_5] <;> rfl) ?_
    refine pops_done (hR26 _ ?_)
    clear hR26 R26
    try simp only [thenK, scopeK]
    refine hN25 _ ?_
    clear hN25 N25
    refine pwp_then fun N27 hN27 => ?_
    refine pwp_reg fun R28 hR28 => ?_
    refine pops_mv (.inl rfl) rfl (by simp only [St.eval, upd_at, Nat.reduceEqDiff, if_true, if_false, e0_0, e0_1, e0_5] <;> rfl) ?_
    refine pops_to rfl fun M hM => ?_
    simp only [pop, St.eval, constSlot, upd_at, Nat.reduceEqDiff, if_true, if_false, popBin, binK, intK, strK, eqK, eq_self, true_and, and_true, e0_0, e0_1, e0_5]
    refine hM _ _ ?_
    clear hM M
    refine pops_done (hR28 _ ?_)
    clear hR28 R28
    try simp only [thenK, scopeK]
    refine hN27 _ ?_
    clear hN27 N27
    refine pwp_cond (by simp only [St.eval, upd_at, Nat.reduceEqDiff, if_true, if_false, e0_0, e0_1, e0_5] <;> rfl) (fun c22 => ?_) (fun c22 => ?_)
    ·skip
     have hx := hi1 (x := x) (by have := of_decide_eq_true c22; omega)
     refine pwp_reg fun R29 hR29 => ?_
     refine pops_mv (.inl rfl) rfl (by simp only [St.eval, upd_at, Nat.reduceEqDiff, if_true, if_false, e0_0, e0_1, e0_5] <;> rfl) ?_
     refine pops_to rfl fun M hM => ?_
     simp only [pop, St.eval, constSlot, upd_at, Nat.reduceEqDiff, if_true, if_false, popBin, binK, intK, strK, eqK, eq_self, true_and, and_true, e0_0, e0_1, e0_5, u8_xor27]
     refine hM _ _ ?_
     clear hM M
     refine pops_mv (.inr rfl) rfl (by simp only [St.eval, upd_at, Nat.reduceEqDiff, if_true, if_false, e0_0, e0_1, e0_5] <;> rfl) ?_
     refine pops_done (hR29 _ ?_)
     clear hR29 R29
     try simp only [blockK, thenK, scopeK]
     try simp only [thenK, scopeK]
     refine hN9 _ ?_
     clear hN9 N9
     refine pwp_reg fun R30 hR30 => ?_
     refine pops_mv (.inl rfl) rfl (by simp only [St.eval, upd_at, Nat.reduceEqDiff, if_true, if_false, e0_0, e0_1, e0_5] <;> rfl) ?_
     refine pops_to rfl fun M hM => ?_
     simp only [pop, St.eval, constSlot, upd_at, Nat.reduceEqDiff, if_true, if_false, popBin, binK, intK, strK, eqK, eq_self, true_and, and_true, e0_0, e0_1, e0_5, u8_shr]
     refine ⟨by decide, hM _ _ ?_⟩
     clear hM M
     refine pops_mv (.inr rfl) rfl (by simp only [St.eval, upd_at, Nat.reduceEqDiff, if_true, if_false, e0_0, e0_1, e0_5] <;> rfl) ?_
     refine pops_done (hR30 _ ?_)
     clear hR30 R30
     try simp only [thenK, scopeK]
     exact ⟨_, by omega, _, .refl _ _, n, o, ((x <<< 1) ^^^ 27), (y >>> 1), rfl, by rw [← hx0_0]; simp only [Gf.tm]; rw [if_neg hb0, hx], u8_half hx0_1, sl0, by simp only [upd_at, Nat.reduceEqDiff, if_true, if_false, e0_0, e0_1, e0_5], by simp only [upd_at, Nat.reduceEqDiff, if_true, if_false, e0_0, e0_1, e0_5], by simp only [upd_at, Nat.reduceEqDiff, if_true, if_false, e0_0, e0_1, e0_5]⟩
    ·skip
     have hx := hi0 (x := x) (by have := of_decide_eq_false c22; omega)
     refine pwp_skip ?_
     try simp only [blockK, thenK, scopeK]
     try simp only [thenK, scopeK]
     refine hN9 _ ?_
     clear hN9 N9
     refine pwp_reg fun R31 hR31 => ?_
     refine pops_mv (.inl rfl) rfl (by simp only [St.eval, upd_at, Nat.reduceEqDiff, if_true, if_false, e0_0, e0_1, e0_5] <;> rfl) ?_
     refine pops_to rfl fun M hM => ?_
     simp only [pop, St.eval, constSlot, upd_at, Nat.reduceEqDiff, if_true, if_false, popBin, binK, intK, strK, eqK, eq_self, true_and, and_true, e0_0, e0_1, e0_5, u8_shr]
     refine ⟨by decide, hM _ _ ?_⟩
     clear hM M
     refine pops_mv (.inr rfl) rfl (by simp only [St.eval, upd_at, Nat.reduceEqDiff, if_true, if_false, e0_0, e0_1, e0_5] <;> rfl) ?_
     refine pops_done (hR31 _ ?_)
     clear hR31 R31
     try simp only [thenK, scopeK]
     exact ⟨_, by omega, _, .refl _ _, n, o, (x <<< 1), (y >>> 1), rfl, by rw [← hx0_0]; simp only [Gf.tm]; rw [if_neg hb0, hx], u8_half hx0_1, sl0, by simp only [upd_at, Nat.reduceEqDiff, if_true, if_false, e0_0, e0_1, e0_5], by simp only [upd_at, Nat.reduceEqDiff, if_true, if_false, e0_0, e0_1, e0_5], by simp only [upd_at, Nat.reduceEqDiff, if_true, if_false, e0_0, e0_1, e0_5]⟩
  ·skip
   obtain rfl := u8_eq0 (of_decide_eq_false c8)
   rw [tm_zero] at hx0_0
   subst hx0_0
   refine pwp_exit ?_
   try simp only [thenK, blockK, scopeK, if_true, Nat.reduceEqDiff, if_false]
   clear hN6 N6
   try simp only [blockK, scopeK, if_true, Nat.reduceEqDiff, if_false, thenK]
   try simp only [thenK, scopeK]
   refine hN5 _ ?_
   clear hN5 N5
   refine pwp_then fun N32 hN32 => ?_
   refine pwp_reg fun R33 hR33 => ?_
   refine pops_mv (.inl rfl) rfl (by simp only [St.eval, upd_at, Nat.reduceEqDiff, if_true, if_false, e0_0, e0_1, e0_5] <;> rfl) ?_
   refine pops_mv (.inr rfl) rfl (by simp only [St.eval, upd_at, Nat.reduceEqDiff, if_true, if_false, e0_0, e0_1, e0_5] <;> rfl) ?_
   refine pops_done (hR33 _ ?_)
   clear hR33 R33
   try simp only [thenK, scopeK]
   refine hN32 _ ?_
   clear hN32 N32
   refine pwp_ret ?_
   simp only [thenK, blockK, scopeK, bodyK]
   refine ⟨_, rfl, endFun sl0 ?_⟩
   try simp only [upd_at, Nat.reduceEqDiff, if_true, if_false, e0_0, e0_1, e0_5]
   all_goals
    rfl

theorem nm17 : (Tryd.f17.name == "runtime.NumGoroutine") = false := by kernel_rfl
theorem inverse_fun (W0 : World) (a : UInt8) :
  PFun Tryd.prog W0 17 [.one (pbyte a)] (.sv (.one (pbyte (Gf.iv a)))) := by
 intro h
 refine pcalls1 (n := 19) Tryd.func17 rfl nm17 rfl fun hb => ?_
 refine pwp_then fun N1 hN1 => ?_
 refine pwp_reg fun R2 hR2 => ?_
 refine pops_mv (.inr rfl) rfl (by simp only [St.eval, constSlot] <;> rfl) ?_
 refine pops_done (hR2 _ ?_)
 clear hR2 R2
 try simp only [thenK, scopeK]
 refine hN1 _ ?_
 clear hN1 N1
 refine pwp_then fun N3 hN3 => ?_
 refine pwp_reg fun R4 hR4 => ?_
 refine pops_mv (.inr rfl) rfl (by simp only [St.eval, constSlot] <;> rfl) ?_
 refine pops_done (hR4 _ ?_)
 clear hR4 R4
 try simp only [thenK, scopeK]
 refine hN3 _ ?_
 clear hN3 N3
 refine pwp_then fun N5 hN5 => ?_
 refine pwp_then fun N6 hN6 => ?_
 refine pwp_reg fun R7 hR7 => ?_
 refine pops_mv (.inr rfl) rfl (by simp only [St.eval, constSlot] <;> rfl) ?_
 refine pops_done (hR7 _ ?_)
 clear hR7 R7
 try simp only [thenK, scopeK]
 refine hN6 _ ?_
 clear hN6 N6
 refine pwp_block ?_
 refine pwp_loop (fun k σ => ∃ (n : Nat), ∃ (m : Nat), ∃ (o : UInt8), ∃ (x : UInt8), (k = n) ∧ (Gf.ivl n m o x = Gf.iv a) ∧ (m < 2 ^ n) ∧ (m < 1024) ∧ (Same h σ.hp) ∧ (σ.env 0 = .sv (.one (pbyte x))) ∧ (σ.env 3 = .sv (.one (pbyte o))) ∧ (σ.env 4 = .sv (.one (pint (m : Nat))))) _ ⟨_, .refl _ _, 8, 254, 1, a, rfl, ?_⟩ ?_
 · exact ⟨rfl, by decide, by decide, (Same.refl _), by simp only [upd_at, Nat.reduceEqDiff, if_true, if_false], by first | rfl | (simp only [upd_at, Nat.reduceEqDiff, if_true, if_false]; rfl), by first | rfl | (simp only [upd_at, Nat.reduceEqDiff, if_true, if_false]; rfl)⟩
 ·rintro k ⟨e, hp0⟩ ⟨n, m, o, x, hk0, hx0_0, hx0_1, hx0_2, sl0, e0_0, e0_3, e0_4⟩
  simp only at sl0 e0_0 e0_3 e0_4
  refine pwp_then fun N8 hN8 => ?_
  refine pwp_then fun N9 hN9 => ?_
  refine pwp_reg fun R10 hR10 => ?_
  refine pops_mv (.inl rfl) rfl (by simp only [St.eval, upd_at, Nat.reduceEqDiff, if_true, if_false, e0_0, e0_3, e0_4] <;> rfl) ?_
  refine pops_to rfl fun M hM => ?_
  simp only [pop, St.eval, constSlot, upd_at, Nat.reduceEqDiff, if_true, if_false, popBin, binK, intK, strK, eqK, eq_self, true_and, and_true, e0_0, e0_3, e0_4]
  refine hM _ _ ?_
  clear hM M
  refine pops_done (hR10 _ ?_)
  clear hR10 R10
  try simp only [thenK, scopeK]
  refine hN9 _ ?_
  clear hN9 N9
  refine pwp_cond (by simp only [St.eval, upd_at, Nat.reduceEqDiff, if_true, if_false, e0_0, e0_3, e0_4] <;> rfl) (fun c6 => ?_) (fun c6 => ?_)
  ·skip
   have hpos := of_decide_eq_true c6
   obtain ⟨n, rfl⟩ : ∃ k, n = k + 1 := ⟨n - 1, by rcases n with _ | n; simp at hx0_1; omega; omega⟩
   refine pwp_skip ?_
   try simp only [thenK, scopeK]
   refine hN8 _ ?_
   clear hN8 N8
   refine pwp_then fun N11 hN11 => ?_
   refine pwp_block ?_
   refine pwp_then fun N12 hN12 => ?_
   refine pwp_then fun N13 hN13 => ?_
   refine pwp_reg fun R14 hR14 => ?_
   refine pops_mv (.inl rfl) rfl (by simp only [St.eval, upd_at, Nat.reduceEqDiff, if_true, if_false, e0_0, e0_3, e0_4] <;> rfl) ?_
   refine pops_to rfl fun M hM => ?_
   simp only [pop, St.eval, constSlot, upd_at, Nat.reduceEqDiff, if_true, if_false, popBin, binK, intK, strK, eqK, eq_self, true_and, and_true, e0_0, e0_3, e0_4, i64_and1 m (by omega)]
   refine hM _ _ ?_
   clear hM M
   refine pops_to rfl fun M hM => ?_
   simp only [pop, St.eval, constSlot, upd_at, Nat.reduceEqDiff, if_true, if_false, popBin, binK, intK, strK, eqK, Tryd.underlying3, isPtr, eq_self, true_and, and_true, e0_0, e0_3, e0_4]
   refine hM _ _ ?_
   clear hM M
   refine pops_done (hR14 _ ?_)
   clear hR14 R14
   try simp only [thenK, scopeK]
   refine hN13 _ ?_
   clear hN13 N13
   refine pwp_cond (by simp only [St.eval, upd_at, Nat.reduceEqDiff, if_true, if_false, e0_0, e0_3, e0_4] <;> rfl) (fun c11 => ?_) (fun c11 => ?_)
   ·skip
    have hodd : m % 2 = 1 := by have := eq_of_beq c11; omega
    refine pwp_reg fun R15 hR15 => ?_
    refine pops_mv (.inl rfl) rfl (by simp only [St.eval, upd_at, Nat.reduceEqDiff, if_true, if_false, e0_0, e0_3, e0_4] <;> rfl) ?_
    refine pops_mv (.inl rfl) rfl (by simp only [St.eval, upd_at, Nat.reduceEqDiff, if_true, if_false, e0_0, e0_3, e0_4] <;> rfl) ?_
    refine pops_to rfl fun M hM => ?_
    simp only [pop, St.eval, constSlot, upd_at, Nat.reduceEqDiff, if_true, if_false, popCall, List.toList_toArray, List.map_cons, List.map_nil, svs, List.mapM_cons, List.mapM_nil, Option.bind_eq_bind, Option.bind_some, Option.pure_def, List.append_nil, List.cons_append, List.nil_append, str_size, e0_0, e0_3, e0_4]
    refine PFun.use (times_fun W0 o x) fun h1 s1 => hM _ _ ?_
    replace s1 := Same.trans sl0 s1
    clear hM M
    refine pops_mv (.inr rfl) rfl (by simp only [St.eval, upd_at, Nat.reduceEqDiff, if_true, if_false, e0_0, e0_3, e0_4] <;> rfl) ?_
    refine pops_done (hR15 _ ?_)
    clear hR15 R15
    try simp only [thenK, scopeK]
    refine hN12 _ ?_
    clear hN12 N12
    refine pwp_reg fun R16 hR16 => ?_
    refine pops_mv (.inl rfl) rfl (by simp only [St.eval, upd_at, Nat.reduceEqDiff, if_true, if_false, e0_0, e0_3, e0_4] <;> rfl) ?_
    refine pops_mv (.inl rfl) rfl (by simp only [St.eval, upd_at, Nat.reduceEqDiff, if_true, if_false, e0_0, e0_3, e0_4] <;> rfl) ?_
    refine pops_to rfl fun M hM => ?_
    simp only [pop, St.eval, constSlot, upd_at, Nat.reduceEqDiff, if_true, if_false, popCall, List.toList_toArray, List.map_cons, List.map_nil, svs, List.mapM_cons, List.mapM_nil, Option.bind_eq_bind, Option.bind_some, Option.pure_def, List.append_nil, List.cons_append, List.nil_append, str_size, e0_0, e0_3, e0_4]
    refine PFun.use (times_fun W0 x x) fun h2 s2 => hM _ _ ?_
    replace s2 := Same.trans s1 s2
    clear hM M
    refine pops_mv (.inr rfl) rfl (by simp only [St.eval, upd_at, Nat.reduceEqDiff, if_true, if_false, e0_0, e0_3, e0_4] <;> rfl) ?_
    refine pops_done (hR16 _ ?_)
    clear hR16 R16
    try simp only [blockK, thenK, scopeK]
    try simp only [thenK, scopeK]
    refine hN11 _ ?_
    clear hN11 N11
    refine pwp_reg fun R17 hR17 => ?_
    refine pops_mv (.inl rfl) rfl (by simp only [St.eval, upd_at, Nat.reduceEqDiff, if_true, if_false, e0_0, e0_3, e0_4] <;> rfl) ?_
    refine pops_to rfl fun M hM => ?_
    simp only [pop, St.eval, constSlot, upd_at, Nat.reduceEqDiff, if_true, if_false, popBin, binK, intK, strK, eqK, eq_self, true_and, and_true, e0_0, e0_3, e0_4, i64_shr1]
    refine ⟨by decide, hM _ _ ?_⟩
    clear hM M
    refine pops_mv (.inr rfl) rfl (by simp only [St.eval, upd_at, Nat.reduceEqDiff, if_true, if_false, e0_0, e0_3, e0_4] <;> rfl) ?_
    refine pops_done (hR17 _ ?_)
    clear hR17 R17
    try simp only [thenK, scopeK]
    exact ⟨_, by omega, _, .refl _ _, n, (m / 2), (Gf.gm o x), (Gf.gm x x), rfl, by rw [← hx0_0]; simp only [Gf.ivl]; rw [if_pos hodd], by rw [Nat.pow_succ] at hx0_1; omega, by omega, s2, by simp only [upd_at, Nat.reduceEqDiff, if_true, if_false, e0_0, e0_3, e0_4], by simp only [upd_at, Nat.reduceEqDiff, if_true, if_false, e0_0, e0_3, e0_4], by simp only [upd_at, Nat.reduceEqDiff, if_true, if_false, e0_0, e0_3, e0_4]⟩
   ·skip
    have hodd : ¬ m % 2 = 1 := by intro e; rw [e] at c11; exact absurd c11 (by decide)
    refine pwp_skip ?_
    try simp only [thenK, scopeK]
    refine hN12 _ ?_
    clear hN12 N12
    refine pwp_reg fun R18 hR18 => ?_
    refine pops_mv (.inl rfl) rfl (by simp only [St.eval, upd_at, Nat.reduceEqDiff, if_true, if_false, e0_0, e0_3, e0_4] <;> rfl) ?_
    refine pops_mv (.inl rfl) rfl (by simp only [St.eval, upd_at, Nat.reduceEqDiff, if_true, if_false, e0_0, e0_3, e0_4] <;> rfl) ?_
    refine pops_to rfl fun M hM => ?_
    simp only [pop, St.eval, constSlot, upd_at, Nat.reduceEqDiff, if_true, if_false, popCall, List.toList_toArray, List.map_cons, List.map_nil, svs, List.mapM_cons, List.mapM_nil, Option.bind_eq_bind, Option.bind_some, Option.pure_def, List.append_nil, List.cons_append, List.nil_append, str_size, e0_0, e0_3, e0_4]
    refine PFun.use (times_fun W0 x x) fun h3 s3 => hM _ _ ?_
    replace s3 := Same.trans sl0 s3
    clear hM M
    refine pops_mv (.inr rfl) rfl (by simp only [St.eval, upd_at, Nat.reduceEqDiff, if_true, if_false, e0_0, e0_3, e0_4] <;> rfl) ?_
    refine pops_done (hR18 _ ?_)
    clear hR18 R18
    try simp only [blockK, thenK, scopeK]
    try simp only [thenK, scopeK]
    refine hN11 _ ?_
    clear hN11 N11
    refine pwp_reg fun R19 hR19 => ?_
    refine pops_mv (.inl rfl) rfl (by simp only [St.eval, upd_at, Nat.reduceEqDiff, if_true, if_false, e0_0, e0_3, e0_4] <;> rfl) ?_
    refine pops_to rfl fun M hM => ?_
    simp only [pop, St.eval, constSlot, upd_at, Nat.reduceEqDiff, if_true, if_false, popBin, binK, intK, strK, eqK, eq_self, true_and, and_true, e0_0, e0_3, e0_4, i64_shr1]
    refine ⟨by decide, hM _ _ ?_⟩
    clear hM M
    refine pops_mv (.inr rfl) rfl (by simp only [St.eval, upd_at, Nat.reduceEqDiff, if_true, if_false, e0_0, e0_3, e0_4] <;> rfl) ?_
    refine pops_done (hR19 _ ?_)
    clear hR19 R19
    try simp only [thenK, scopeK]
    exact ⟨_, by omega, _, .refl _ _, n, (m / 2), o, (Gf.gm x x), rfl, by rw [← hx0_0]; simp only [Gf.ivl]; rw [if_neg hodd], by rw [Nat.pow_succ] at hx0_1; omega, by omega, s3, by simp only [upd_at, Nat.reduceEqDiff, if_true, if_false, e0_0, e0_3, e0_4], by simp only [upd_at, Nat.reduceEqDiff, if_true, if_false, e0_0, e0_3, e0_4], by simp only [upd_at, Nat.reduceEqDiff, if_true, if_false, e0_0, e0_3, e0_4]⟩
  ·skip
   obtain rfl : m = 0 := by have := of_decide_eq_false c6; omega
   rw [ivl_zero] at hx0_0
   subst hx0_0
   refine pwp_exit ?_
   try simp only [thenK, blockK, scopeK, if_true, Nat.reduceEqDiff, if_false]
   clear hN8 N8
   try simp only [blockK, scopeK, if_true, Nat.reduceEqDiff, if_false, thenK]
   try simp only [thenK, scopeK]
   refine hN5 _ ?_
   clear hN5 N5
   refine pwp_then fun N20 hN20 => ?_
   refine pwp_reg fun R21 hR21 => ?_
   refine pops_mv (.inl rfl) rfl (by simp only [St.eval, upd_at, Nat.reduceEqDiff, if_true, if_false, e0_0, e0_3, e0_4] <;> rfl) ?_
   refine pops_mv (.inr rfl) rfl (by simp only [St.eval, upd_at, Nat.reduceEqDiff, if_true, if_false, e0_0, e0_3, e0_4] <;> rfl) ?_
   refine pops_done (hR21 _ ?_)
   clear hR21 R21
   try simp only [thenK, scopeK]
   refine hN20 _ ?_
   clear hN20 N20
   refine pwp_ret ?_
   simp only [thenK, blockK, scopeK, bodyK]
   refine ⟨_, rfl, endFun sl0 ?_⟩
   try simp only [upd_at, Nat.reduceEqDiff, if_true, if_false, e0_0, e0_3, e0_4]
   all_goals
    rfl
end Go.Pw
