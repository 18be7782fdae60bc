import Derived.Test.YtomkpdnnimcapaaDoorFacts
namespace Go.Pw
open Go Go.RowKit Go.Proofs
set_option maxRecDepth 100000
set_option linter.unusedSimpArgs false
set_option linter.unusedVariables false
namespace Gf
def xt (a : UInt8) : UInt8 := if 128 ≤ a.toNat then (a <<< 1) ^^^ 27 else a <<< 1
def tm : Nat → UInt8 → UInt8 → UInt8 → UInt8
  | 0, out, _, _ => out
  | n + 1, out, a, b => tm n (if b &&& 1 = 1 then out ^^^ a else out) (xt a) (b >>> 1)
def gm (a b : UInt8) : UInt8 := tm 8 0 a b
def ivl : Nat → Nat → UInt8 → UInt8 → UInt8
  | 0, _, out, _ => out
  | k + 1, n, out, a => ivl k (n / 2) (if n % 2 = 1 then gm out a else out) (gm a a)
def iv (a : UInt8) : UInt8 := ivl 8 254 1 a
theorem all1 {Q : UInt8 → Prop} (h : ∀ a : Fin 256, Q ⟨⟨a⟩⟩) (a : UInt8) : Q a := h a.toBitVec.toFin
theorem xt_eq (a : UInt8) : xt a = (a <<< 1) ^^^ (if a >>> 7 = 1 then 27 else 0) := all1 (Q := fun a => xt a = (a <<< 1) ^^^ (if a >>> 7 = 1 then 27 else 0)) (by decide +kernel) a
theorem top01 (a : UInt8) : a >>> 7 = 0 ∨ a >>> 7 = 1 := all1 (Q := fun a => a >>> 7 = 0 ∨ a >>> 7 = 1) (by decide +kernel) a
theorem low01 (a : UInt8) : a &&& 1 = 0 ∨ a &&& 1 = 1 := all1 (Q := fun a => a &&& 1 = 0 ∨ a &&& 1 = 1) (by decide +kernel) a
theorem xl (a b c : UInt8) : a ^^^ (b ^^^ c) = b ^^^ (a ^^^ c) := by rw [← UInt8.xor_assoc, UInt8.xor_comm a b, UInt8.xor_assoc]
theorem x0l (a : UInt8) : 0 ^^^ a = a := by rw [UInt8.xor_comm, UInt8.xor_zero]
theorem xs (a b : UInt8) : a ^^^ (a ^^^ b) = b := by rw [← UInt8.xor_assoc, UInt8.xor_self, x0l]
theorem xt_xor (a b : UInt8) : xt (a ^^^ b) = xt a ^^^ xt b := by
  rw [xt_eq, xt_eq, xt_eq, UInt8.shiftLeft_xor, UInt8.shiftRight_xor]
  rcases top01 a with h | h <;> rcases top01 b with k | k <;> rw [h, k]
  · simp
  · simp [UInt8.xor_assoc]
  · simp only [show (1 : UInt8) ^^^ 0 = 1 from rfl, if_true, show ¬ (0 : UInt8) = 1 from by decide, if_false, UInt8.xor_zero]
    rw [UInt8.xor_assoc, UInt8.xor_assoc, UInt8.xor_comm _ 27]
  · simp only [show (1 : UInt8) ^^^ 1 = 0 from rfl, if_true, show ¬ (0 : UInt8) = 1 from by decide, if_false, UInt8.xor_zero]
    rw [UInt8.xor_assoc, xl 27, UInt8.xor_self, UInt8.xor_zero]
theorem and1_xor (b c : UInt8) : (b ^^^ c) &&& 1 = (b &&& 1) ^^^ (c &&& 1) := by
  apply UInt8.toBitVec_inj.1
  simp only [UInt8.toBitVec_and, UInt8.toBitVec_xor]
  apply BitVec.eq_of_getLsbD_eq
  intro i hi
  simp only [BitVec.getLsbD_and, BitVec.getLsbD_xor]
  cases b.toBitVec.getLsbD i <;> cases c.toBitVec.getLsbD i <;> cases (UInt8.toBitVec 1).getLsbD i <;> rfl
theorem tm_out : ∀ (n : Nat) (out a b : UInt8), tm n out a b = out ^^^ tm n 0 a b
  | 0, out, a, b => by simp [tm]
  | n + 1, out, a, b => by
    simp only [tm]
    rw [tm_out n (if b &&& 1 = 1 then out ^^^ a else out), tm_out n (if b &&& 1 = 1 then 0 ^^^ a else 0)]
    split
    · rw [x0l, UInt8.xor_assoc]
    · rw [x0l]
theorem tm_left : ∀ (n : Nat) (a c b : UInt8), tm n 0 (a ^^^ c) b = tm n 0 a b ^^^ tm n 0 c b
  | 0, a, c, b => by simp [tm]
  | n + 1, a, c, b => by
    simp only [tm]
    rw [tm_out n, tm_out n (if b &&& 1 = 1 then 0 ^^^ a else 0), tm_out n (if b &&& 1 = 1 then 0 ^^^ c else 0), xt_xor, tm_left n]
    split
    · simp only [x0l, UInt8.xor_assoc]
      rw [xl c]
    · simp only [x0l]
theorem tm_right : ∀ (n : Nat) (a b c : UInt8), tm n 0 a (b ^^^ c) = tm n 0 a b ^^^ tm n 0 a c
  | 0, a, b, c => by simp [tm]
  | n + 1, a, b, c => by
    simp only [tm]
    rw [tm_out n, tm_out n (if b &&& 1 = 1 then 0 ^^^ a else 0), tm_out n (if c &&& 1 = 1 then 0 ^^^ a else 0), UInt8.shiftRight_xor, tm_right n, and1_xor]
    rcases low01 b with h | h <;> rcases low01 c with k | k <;> rw [h, k]
    · simp
    · simp only [show (0 : UInt8) ^^^ 1 = 1 from rfl, if_true, show ¬ (0 : UInt8) = 1 from by decide, if_false, x0l]
      rw [xl a]
    · simp only [show (1 : UInt8) ^^^ 0 = 1 from rfl, if_true, show ¬ (0 : UInt8) = 1 from by decide, if_false, x0l, UInt8.xor_assoc]
    · simp only [show (1 : UInt8) ^^^ 1 = 0 from rfl, if_true, show ¬ (0 : UInt8) = 1 from by decide, if_false, x0l, UInt8.xor_assoc]
      rw [xl _ a, xs]
theorem gm_addl (a c b : UInt8) : gm (a ^^^ c) b = gm a b ^^^ gm c b := tm_left 8 a c b
theorem gm_addr (a b c : UInt8) : gm a (b ^^^ c) = gm a b ^^^ gm a c := tm_right 8 a b c
def bitsOf (a : UInt8) : List UInt8 := [1, 2, 4, 8, 16, 32, 64, 128].map fun p => if a &&& p = p then p else 0
theorem bits_sum (a : UInt8) : (bitsOf a).foldr (· ^^^ ·) 0 = a := all1 (Q := fun a => (bitsOf a).foldr (· ^^^ ·) 0 = a) (by decide +kernel) a
theorem span {Q : UInt8 → Prop} (h0 : Q 0) (hx : ∀ a b, Q a → Q b → Q (a ^^^ b)) (hb : ∀ p ∈ ([1, 2, 4, 8, 16, 32, 64, 128] : List UInt8), Q p) (a : UInt8) : Q a := by
  rw [← bits_sum a]
  have h : ∀ p ∈ bitsOf a, Q p := by
    intro p hp
    obtain ⟨q, hq, rfl⟩ := List.mem_map.1 hp
    split
    · exact hb q hq
    · exact h0
  generalize bitsOf a = l at h
  induction l with
  | nil => exact h0
  | cons c l ih => exact hx _ _ (h c (by simp)) (ih fun p hp => h p (by simp [hp]))
theorem gm_0l (b : UInt8) : gm 0 b = 0 := by
  have := gm_addl 0 0 b
  rw [UInt8.xor_self, UInt8.xor_self] at this
  exact this
theorem gm_0r (a : UInt8) : gm a 0 = 0 := by
  have := gm_addr a 0 0
  rw [UInt8.xor_self, UInt8.xor_self] at this
  exact this
theorem gm_comm (a b : UInt8) : gm a b = gm b a := by
  refine span (Q := fun a => gm a b = gm b a) (by rw [gm_0l, gm_0r]) (fun x y hx hy => by rw [gm_addl, gm_addr, hx, hy]) (fun p hp => ?_) a
  refine span (Q := fun b => gm p b = gm b p) (by rw [gm_0l, gm_0r]) (fun x y hx hy => by rw [gm_addl, gm_addr, hx, hy]) (fun q hq => ?_) b
  revert hq q hp p
  decide +kernel
theorem gm_assoc (a b c : UInt8) : gm (gm a b) c = gm a (gm b c) := by
  refine span (Q := fun a => gm (gm a b) c = gm a (gm b c)) (by simp only [gm_0l]) (fun x y hx hy => by rw [gm_addl, gm_addl, gm_addl, hx, hy]) (fun p hp => ?_) a
  refine span (Q := fun b => gm (gm p b) c = gm p (gm b c)) (by simp only [gm_0l, gm_0r]) (fun x y hx hy => by rw [gm_addr, gm_addl, gm_addl, gm_addr, hx, hy]) (fun q hq => ?_) b
  refine span (Q := fun c => gm (gm p q) c = gm p (gm q c)) (by simp only [gm_0r]) (fun x y hx hy => by rw [gm_addr, gm_addr, gm_addr, hx, hy]) (fun r hr => ?_) c
  revert hr r hq q hp p
  decide +kernel
theorem gm_1l (a : UInt8) : gm 1 a = a := all1 (Q := fun a => gm 1 a = a) (by decide +kernel) a
theorem gm_1r (a : UInt8) : gm a 1 = a := by rw [gm_comm, gm_1l]
theorem gm_iv (a : UInt8) (h : a ≠ 0) : gm a (iv a) = 1 := all1 (Q := fun a => a ≠ 0 → gm a (iv a) = 1) (by decide +kernel) a h
theorem gl (a b c : UInt8) : gm a (gm b c) = gm b (gm a c) := by rw [← gm_assoc, gm_comm a b, gm_assoc]
theorem iv_ne {a : UInt8} (h : a ≠ 0) : iv a ≠ 0 := fun e => by
  have := gm_iv a h
  rw [e, gm_0r] at this
  exact absurd this (by decide)
theorem gm_ne {a b : UInt8} (ha : a ≠ 0) (hb : b ≠ 0) : gm a b ≠ 0 := fun e => by
  have : gm (gm (iv a) a) b = 0 := by rw [gm_assoc, e, gm_0r]
  rw [gm_comm (iv a), gm_iv a ha, gm_1l] at this
  exact hb this
theorem xor_ne {a b : UInt8} (h : a ≠ b) : a ^^^ b ≠ 0 := fun e => by
  have := congrArg (· ^^^ b) e
  simp only [UInt8.xor_assoc, UInt8.xor_self, UInt8.xor_zero, x0l] at this
  exact h this
theorem xor_inj {a b c : UInt8} (h : a ^^^ b = a ^^^ c) : b = c := by
  have := congrArg (a ^^^ ·) h
  simpa only [xs] using this
theorem gm_inj {a b c : UInt8} (ha : a ≠ 0) (h : gm a b = gm a c) : b = c := by
  have := congrArg (gm (iv a)) h
  rwa [← gm_assoc, ← gm_assoc, gm_comm (iv a), gm_iv a ha, gm_1l, gm_1l] at this
/-- One factor of a weight. -/
def qf (z x k : UInt8) : UInt8 := gm (z ^^^ k) (iv (x ^^^ k))
theorem qf_mul {z x k : UInt8} (h : x ≠ k) : gm (x ^^^ k) (qf z x k) = z ^^^ k := by
  unfold qf
  rw [gl, gm_iv _ (xor_ne h), gm_1r]
theorem qf_two {z x c d : UInt8} (hc : x ≠ c) (hd : x ≠ d) : gm (c ^^^ d) (gm (qf z x c) (qf z x d)) = gm (z ^^^ c) (qf z x d) ^^^ gm (z ^^^ d) (qf z x c) := by
  have e : c ^^^ d = (x ^^^ c) ^^^ (x ^^^ d) := by rw [UInt8.xor_comm x c, UInt8.xor_assoc, xs]
  rw [e, gm_addl, ← gm_assoc, qf_mul hc, gl, qf_mul hd, gm_comm (qf z x c)]
/-- A point's weight for the value at z: the points that are this one are left out. -/
def wt (z x : UInt8) : List UInt8 → UInt8
  | [] => 1
  | k :: l => if k = x then wt z x l else gm (qf z x k) (wt z x l)
theorem wt_same (z x : UInt8) (l : List UInt8) : wt z x (x :: l) = wt z x l := if_pos rfl
theorem wt_other {z x k : UInt8} (h : k ≠ x) (l : List UInt8) : wt z x (k :: l) = gm (qf z x k) (wt z x l) := if_neg h
def sumX : List UInt8 → UInt8
  | [] => 0
  | a :: l => a ^^^ sumX l
theorem sum_add {α : Type} (f g : α → UInt8) : ∀ l : List α, sumX (l.map fun x => f x ^^^ g x) = sumX (l.map f) ^^^ sumX (l.map g)
  | [] => by simp [sumX]
  | a :: l => by simp only [List.map_cons, sumX, sum_add f g l, UInt8.xor_assoc]; rw [xl (g a)]
theorem sum_mul {α : Type} (c : UInt8) (f : α → UInt8) : ∀ l : List α, sumX (l.map fun x => gm c (f x)) = gm c (sumX (l.map f))
  | [] => (gm_0r c).symm
  | a :: l => by simp only [List.map_cons, sumX, sum_mul c f l, gm_addr]
theorem sum_congr {α : Type} {f g : α → UInt8} {l : List α} (h : ∀ x ∈ l, f x = g x) : sumX (l.map f) = sumX (l.map g) := by rw [List.map_congr_left h]
theorem unity (z : UInt8) : ∀ (n : Nat) (l : List UInt8), l.length = n → l ≠ [] → l.Nodup → sumX (l.map fun x => wt z x l) = 1
  | 0, l, hl, h0, _ => absurd (List.length_eq_zero_iff.1 hl) h0
  | n + 1, [], _, h0, _ => absurd rfl h0
  | n + 1, [c], _, _, _ => by simp [sumX, wt]
  | n + 1, c :: d :: t, hl, _, hd => by
    obtain ⟨h1, h2⟩ := List.nodup_cons.1 hd
    obtain ⟨h3, h4⟩ := List.nodup_cons.1 h2
    have hcd : c ≠ d := fun e => h1 (by simp [e])
    have hct : c ∉ t := fun e => h1 (by simp [e])
    have i1 := unity z n (d :: t) (by simpa using hl) (by simp) h2
    have i2 := unity z n (c :: t) (by simpa using hl) (by simp) (List.nodup_cons.2 ⟨hct, h4⟩)
    simp only [List.map_cons, sumX, wt_same] at i1 i2 ⊢
    rw [sum_congr (f := fun x => wt z x (d :: t)) (g := fun x => gm (qf z x d) (wt z x t)) fun x hx => wt_other (by rintro rfl; exact h3 hx) t] at i1
    rw [sum_congr (f := fun x => wt z x (c :: t)) (g := fun x => gm (qf z x c) (wt z x t)) fun x hx => wt_other (by rintro rfl; exact hct hx) t] at i2
    rw [wt_other (Ne.symm hcd) t, wt_other hcd (d :: t), wt_same]
    apply gm_inj (xor_ne hcd)
    rw [gm_1r, gm_addr, gm_addr, ← sum_mul]
    rw [sum_congr (g := fun x => gm (z ^^^ c) (gm (qf z x d) (wt z x t)) ^^^ gm (z ^^^ d) (gm (qf z x c) (wt z x t))) fun x hx => by
      have ec : x ≠ c := by rintro rfl; exact hct hx
      have ed : x ≠ d := by rintro rfl; exact h3 hx
      rw [wt_other (Ne.symm ec), wt_other (Ne.symm ed), ← gm_assoc (qf z x c), ← gm_assoc (c ^^^ d), qf_two ec ed, gm_addl, gm_assoc, gm_assoc]]
    rw [sum_add, sum_mul, sum_mul, ← gm_assoc, qf_mul hcd, ← gm_assoc (c ^^^ d) (qf z d c), UInt8.xor_comm c d, qf_mul (Ne.symm hcd)]
    have e : ∀ A B C D : UInt8, A ^^^ (B ^^^ (C ^^^ D)) = (B ^^^ C) ^^^ (A ^^^ D) := fun A B C D => by
      rw [xl A B, UInt8.xor_assoc, xl A C]
    rw [e, ← gm_addr, ← gm_addr, i1, i2, gm_1r, gm_1r, UInt8.xor_comm d c]
    rw [UInt8.xor_comm z c, UInt8.xor_assoc, xs]
/-- f is a polynomial of fewer than n coefficients. -/
def IsPoly : Nat → (UInt8 → UInt8) → Prop
  | 0, f => ∀ z, f z = 0
  | n + 1, f => ∃ c g, IsPoly n g ∧ ∀ z, f z = c ^^^ gm z (g z)
theorem IsPoly.congr : ∀ {n : Nat} {f g : UInt8 → UInt8}, IsPoly n f → (∀ z, g z = f z) → IsPoly n g
  | 0, _, _, h, e => fun z => (e z).trans (h z)
  | _ + 1, _, _, ⟨c, k, hk, h⟩, e => ⟨c, k, hk, fun z => (e z).trans (h z)⟩
theorem IsPoly.add : ∀ {n : Nat} {f g : UInt8 → UInt8}, IsPoly n f → IsPoly n g → IsPoly n fun z => f z ^^^ g z
  | 0, _, _, h, k => fun z => by simp [h z, k z]
  | _ + 1, _, _, ⟨c, p, hp, h⟩, ⟨d, q, hq, k⟩ => ⟨c ^^^ d, fun z => p z ^^^ q z, hp.add hq, fun z => by
    show _ ^^^ _ = c ^^^ d ^^^ gm z (p z ^^^ q z)
    rw [h z, k z, gm_addr, UInt8.xor_assoc, UInt8.xor_assoc, xl d]⟩
theorem IsPoly.smul (a : UInt8) : ∀ {n : Nat} {f : UInt8 → UInt8}, IsPoly n f → IsPoly n fun z => gm a (f z)
  | 0, _, h => fun z => by show gm a _ = 0; rw [h z, gm_0r]
  | _ + 1, _, ⟨c, p, hp, h⟩ => ⟨gm a c, fun z => gm a (p z), hp.smul a, fun z => by show gm a _ = gm a c ^^^ gm z (gm a (p z)); rw [h z, gm_addr, gl]⟩
theorem IsPoly.up : ∀ {n : Nat} {f : UInt8 → UInt8}, IsPoly n f → IsPoly (n + 1) f
  | 0, _, h => ⟨0, fun _ => 0, fun _ => rfl, fun z => by rw [h z, gm_0r]; rfl⟩
  | _ + 1, _, ⟨c, p, hp, h⟩ => ⟨c, p, hp.up, h⟩
theorem IsPoly.div (a : UInt8) : ∀ {n : Nat} {f : UInt8 → UInt8}, IsPoly (n + 1) f → ∃ g, IsPoly n g ∧ ∀ z, f z = f a ^^^ gm (z ^^^ a) (g z)
  | 0, f, ⟨c, p, hp, h⟩ => ⟨fun _ => 0, fun _ => rfl, fun z => by rw [gm_0r, UInt8.xor_zero, h z, h a, hp z, hp a, gm_0r, gm_0r]⟩
  | n + 1, f, ⟨c, p, hp, h⟩ => by
    obtain ⟨q, hq, e⟩ := hp.div a
    refine ⟨fun z => p z ^^^ gm a (q z), hp.add (hq.smul a).up, fun z => ?_⟩
    rw [h z, h a, UInt8.xor_assoc]
    congr 1
    have e2 : gm (z ^^^ a) (p z ^^^ gm a (q z)) = gm z (p z) ^^^ (gm a (p z) ^^^ gm a (gm (z ^^^ a) (q z))) := by
      rw [gm_addr, gm_addl z a (p z), UInt8.xor_assoc, gl (z ^^^ a) a]
    rw [e2, ← gm_addr]
    have e3 : p z ^^^ gm (z ^^^ a) (q z) = p a := by
      rw [e z, UInt8.xor_assoc, UInt8.xor_self, UInt8.xor_zero]
    rw [e3, xl, UInt8.xor_self, UInt8.xor_zero]
theorem interp (z : UInt8) : ∀ (l : List UInt8) (f : UInt8 → UInt8), l.Nodup → IsPoly l.length f → sumX (l.map fun x => gm (wt z x l) (f x)) = f z
  | [], f, _, hf => (hf z).symm
  | c :: t, f, hd, hf => by
    obtain ⟨g, hg, e⟩ := hf.div c
    obtain ⟨h1, h2⟩ := List.nodup_cons.1 hd
    have ih := interp z t g h2 hg
    have u := unity z _ (c :: t) rfl (by simp) hd
    have step : sumX ((c :: t).map fun x => gm (wt z x (c :: t)) (f x)) = sumX ((c :: t).map fun x => gm (f c) (wt z x (c :: t)) ^^^ (if x = c then 0 else gm (z ^^^ c) (gm (wt z x t) (g x)))) := by
      refine sum_congr fun x hx => ?_
      rw [e x, gm_addr, gm_comm]
      congr 1
      split
      · rename_i h; subst h; rw [UInt8.xor_self, gm_0l, gm_0r]
      · rename_i h
        rw [wt_other (Ne.symm h), gl, ← gm_assoc (x ^^^ c), ← gm_assoc (x ^^^ c), qf_mul h, gm_assoc]
    rw [step, sum_add, sum_mul, u, gm_1r, List.map_cons]
    simp only [sumX, if_true, x0l]
    rw [sum_congr (f := fun x => if x = c then 0 else gm (z ^^^ c) (gm (wt z x t) (g x))) (g := fun x => gm (z ^^^ c) (gm (wt z x t) (g x))) fun x hx => if_neg (by rintro rfl; exact h1 hx), sum_mul, ih]
    exact (e z).symm
theorem wt_ne (z x : UInt8) : ∀ (l : List UInt8), (∀ k ∈ l, k ≠ z) → wt z x l ≠ 0
  | [], _ => by rw [wt]; decide
  | k :: l, h => by
    rw [wt]
    split
    · exact wt_ne z x l fun q hq => h q (by simp [hq])
    · rename_i hk
      exact gm_ne (gm_ne (xor_ne (Ne.symm (h k (by simp)))) (iv_ne (xor_ne (Ne.symm hk)))) (wt_ne z x l fun q hq => h q (by simp [hq]))
end Gf
end Go.Pw
