import Derived.Test.YtjhgmempnhjflaaDoorFacts
import Derived.Test.YtjhgmempnhjflaaDoorShelf
namespace Go.Pw
open Go Go.RowKit Go.Proofs
set_option maxRecDepth 10000
set_option linter.unusedSimpArgs false
set_option linter.unusedVariables false
theorem mixed : Tryd.prog.follows .mixedOrders = true := by kernel_rfl
def HasMax (W0 : World) : Prop := ∃ m, W0.cell? ⟨0, 0, none⟩ = some (.int .i64 m)
theorem nm50 : (Tryd.f50.name == "runtime.NumGoroutine") = false := by kernel_rfl
theorem split_fun (W0 : World) (hm : HasMax W0) (s : List UInt8) (c : UInt8) (hs : s.length < 4294967281) :
    PFun Tryd.prog W0 50 [.one (pstr s), .one (.val (.string ⟨#[c]⟩))] (.sv (.one (.ro true 1 (pstrs (spl c s))))) := by
  obtain ⟨m, hm⟩ := hm
  refine pfun_newstrs (P := Tryd.prog) (vals := [.string ⟨s.toArray⟩, .string ⟨#[c]⟩]) (n := Lib.countB ⟨s.toArray⟩ ⟨#[c]⟩ + 1) (ty := 9) ⟨_, Tryd.func50, rfl, nm50⟩ ?_ fun w hb => ?_
  · rw [spl_length, Lib.countB]
    simp [Lib.count_one]
  · refine (Tryd.strings_Split ⟨s.toArray⟩ ⟨#[c]⟩ m w (by rw [str_size]; exact hs) (cell_below hb hm) (Nat.le_refl _)).mono ?_
    rintro e w' ⟨rfl, rfl⟩
    refine ⟨rfl, ?_⟩
    have hd := Lib.splitB_data ⟨#[c]⟩ 0 (Lib.countB ⟨s.toArray⟩ ⟨#[c]⟩) ⟨s.toArray⟩
    have e : (Lib.splitB ⟨#[c]⟩ 0 (Lib.countB ⟨s.toArray⟩ ⟨#[c]⟩) ⟨s.toArray⟩) = (spl c s).map fun x => (⟨x.toArray⟩ : ByteArray) := by
      rw [← split_spl, Lib.split]
      have e2 : Lib.splitK [c] 0 (Lib.count s [c]) s = Lib.splitK (⟨#[c]⟩ : ByteArray).data.toList 0 (Lib.countB ⟨s.toArray⟩ ⟨#[c]⟩) (⟨s.toArray⟩ : ByteArray).data.toList := by simp [Lib.countB]
      rw [e2, ← hd, List.map_map]
      symm
      rw [List.map_congr_left (g := id) (fun x _ => by simp)]
      simp
    rw [e, List.map_map]
    rfl
def checkR (isNameR : List UInt8 → Bool) (s : List UInt8) : Int := if s = [] then 0 else if 1024 < s.length then 1 else if (spl 47 s).all isNameR then 0 else 1
def truncR (t p : Int) : Int := if p < 1 then t else IntKind.i64.wrap (t - (if t.tmod p < 0 then IntKind.i64.wrap (t.tmod p + p) else t.tmod p))
theorem truncR_facts (t p : Int) (hp1 : 1 ≤ p) (hp : p ≤ 9223372036854775807) (ht : -4611686018427387904 ≤ t) (ht2 : t ≤ 9223372036854775807) :
    decide (truncR t p ≤ t) = true ∧ decide (IntKind.i64.wrap (t - truncR t p) < p) = true ∧ ((truncR t p).tmod p == 0) = true := by
  have h0 : 0 ≤ t % p := Int.emod_nonneg _ (by omega)
  have h1 : t % p < p := Int.emod_lt_of_pos _ (by omega)
  have hq : p * (t / p) + t % p = t := Int.mul_ediv_add_emod t p
  have hlow : -9223372036854775808 ≤ t - t % p := by
    rcases Int.lt_or_le t 0 with h | h
    · rcases Int.lt_or_le (t / p) (-1) with hq2 | hq2
      · have : p * 1 ≤ p * (-(t / p + 1)) := Int.mul_le_mul_of_nonneg_left (by omega) (by omega)
        have e : p * (-(t / p + 1)) = -(p * (t / p)) - p := by rw [Int.mul_neg, Int.mul_add]; omega
        omega
      · have hq3 : t / p = -1 := by
          have := Int.ediv_neg_of_neg_of_pos h (show 0 < p by omega)
          omega
        rw [hq3] at hq
        omega
    · have : 0 ≤ p * (t / p) := Int.mul_nonneg (by omega) (Int.ediv_nonneg h (by omega))
      omega
  have hr : truncR t p = t - t % p := by
    rw [truncR, if_neg (by omega), Int.tmod_eq_emod]
    by_cases hd : 0 ≤ t ∨ p ∣ t
    · rw [if_pos hd]
      have e : t % p - ((0 : Nat) : Int) = t % p := by omega
      rw [e, if_neg (by omega), wrap_i64 hlow (by omega)]
    · rw [if_neg hd]
      have hn : (p.natAbs : Int) = p := by omega
      rw [hn]
      have hlt : t < 0 := by omega
      rw [if_pos (by omega), show t % p - p + p = t % p by omega, wrap_i64 (x := t % p) (by omega) (by omega), wrap_i64 hlow (by omega)]
  rw [hr]
  refine ⟨decide_eq_true (by omega), decide_eq_true ?_, ?_⟩
  · rw [show t - (t - t % p) = t % p by omega, wrap_i64 (by omega) (by omega)]
    exact h1
  · have : t - t % p = p * (t / p) := by omega
    rw [this, Int.mul_tmod_right]
    rfl
def clockBlk (v : Int) : Blk := ⟨76, 1, [[pint v]], 0, true⟩
def clampR (t : Int) : Int := if 4611686018427387904 < (if 0 > t then 0 else t) then 4611686018427387904 else (if 0 > t then 0 else t)
def passR (v d : Int) : Int := if 0 < d ∧ v < 4611686018427387904 then v + (if 4611686018427387904 - v < d then 4611686018427387904 - v else d) else v
theorem clampR_range (t : Int) : 0 ≤ clampR t ∧ clampR t ≤ 4611686018427387904 := by
  unfold clampR
  split <;> split <;> omega
theorem passR_step {v d : Int} (hv : 0 ≤ v ∧ v ≤ 4611686018427387904) (hd : inI64 d) (h : 0 < d) :
    IntKind.i64.wrap ((if IntKind.i64.wrap (4611686018427387904 - v) < d then IntKind.i64.wrap (4611686018427387904 - v) else d) + v) = passR v d := by
  simp only [inI64] at hd
  rw [wrap_i64 (x := 4611686018427387904 - v) (by omega) (by omega), wrap_i64 (by split <;> omega) (by split <;> omega)]
  unfold passR
  by_cases h2 : v < 4611686018427387904
  · rw [if_pos (show 0 < d ∧ v < 4611686018427387904 from ⟨h, h2⟩)]
    omega
  · rw [if_neg (show ¬ (0 < d ∧ v < 4611686018427387904) from fun x => h2 x.2), if_pos (by omega)]
    omega
theorem passR_zero {v d : Int} (h : ¬ 0 < d) : passR v d = v := by
  unfold passR
  rw [if_neg (by omega)]
theorem passR_range {v d : Int} (hv : 0 ≤ v ∧ v ≤ 4611686018427387904) : 0 ≤ passR v d ∧ passR v d ≤ 4611686018427387904 := by
  unfold passR
  split
  · split <;> omega
  · exact hv
theorem keeps_pass {h a b : Hp} {id : Nat} (hb : hpOk h) (hid : h.lim ≤ id) (k : Keeps h a) (p : Keeps ⟨fun j => if j = id then none else a.blk j, a.lim⟩ b) : Keeps h b :=
  ⟨fun j bl hj => p.1 j bl (by
    have := hb j bl hj
    simp only
    rw [if_neg (by omega)]
    exact k.1 j bl hj), Nat.le_trans k.2 p.2⟩
end Go.Pw
