import Derived.Test.YtokmndkkgbamfaaGreatDoorFacts
import Derived.Test.YtokmndkkgbamfaaGreatDoorShelf
import Derived.Test.YtokmndkkgbamfaaGreatDoorPwY
namespace Go.Pw
open Go Go.RowKit Go.Proofs
set_option maxRecDepth 100000
set_option linter.unusedSimpArgs false
set_option linter.unusedVariables false
theorem mixed : Tryz.prog.follows .mixedOrders = true := by kernel_rfl
def HasMax (W0 : World) : Prop := ∃ m, W0.cell? ⟨0, 0, none⟩ = some (.int .i64 m)
theorem nm56 : (Tryz.f56.name == "runtime.NumGoroutine") = false := by kernel_rfl
theorem split_fun (W0 : World) (hm : HasMax W0) (s : List UInt8) (c : UInt8) (hs : s.length < 4294967281) :
    PFun Tryz.prog W0 56 [.one (pstr s), .one (.val (.string ⟨#[c]⟩))] (.sv (.one (.ro true 1 (pstrs (spl c s))))) := by
  obtain ⟨m, hm⟩ := hm
  refine pfun_newstrs (P := Tryz.prog) (vals := [.string ⟨s.toArray⟩, .string ⟨#[c]⟩]) (n := Lib.countB ⟨s.toArray⟩ ⟨#[c]⟩ + 1) (ty := 9) ⟨_, Tryz.func56, rfl, nm56⟩ ?_ fun w hb => ?_
  · rw [spl_length, Lib.countB]
    simp [Lib.count_one]
  · refine (Tryz.strings_Split ⟨s.toArray⟩ ⟨#[c]⟩ m w (by rw [str_size]; exact hs) (cell_below hb hm) (Nat.le_refl _)).mono ?_
    rintro e w' ⟨rfl, rfl⟩
    refine ⟨rfl, ?_⟩
    have hd := Lib.splitB_data ⟨#[c]⟩ 0 (Lib.countB ⟨s.toArray⟩ ⟨#[c]⟩) ⟨s.toArray⟩
    have e : (Lib.splitB ⟨#[c]⟩ 0 (Lib.countB ⟨s.toArray⟩ ⟨#[c]⟩) ⟨s.toArray⟩) = (spl c s).map fun x => (⟨x.toArray⟩ : ByteArray) := by
      rw [← split_spl, Lib.split]
      have e2 : Lib.splitK [c] 0 (Lib.count s [c]) s = Lib.splitK (⟨#[c]⟩ : ByteArray).data.toList 0 (Lib.countB ⟨s.toArray⟩ ⟨#[c]⟩) (⟨s.toArray⟩ : ByteArray).data.toList := by simp [Lib.countB]
      rw [e2, ← hd, List.map_map]
      symm
      rw [List.map_congr_left (g := id) (fun x _ => by simp)]
      simp
    rw [e, List.map_map]
    rfl
def checkR (isNameR : List UInt8 → Bool) (s : List UInt8) : Int := if s = [] then 0 else if 1024 < s.length then 1 else if (spl 47 s).all isNameR then 0 else 1
def clampR (t : Int) : Int := if 4611686018427387904 < (if 0 > t then 0 else t) then 4611686018427387904 else (if 0 > t then 0 else t)
theorem keeps_pass {h a b : Hp} {id : Nat} (hb : hpOk h) (hid : h.lim ≤ id) (k : Keeps h a) (p : Keeps ⟨fun j => if j = id then none else a.blk j, a.lim⟩ b) : Keeps h b :=
  ⟨fun j bl hj => p.1 j bl (by
    have := hb j bl hj
    simp only
    rw [if_neg (by omega)]
    exact k.1 j bl hj), Nat.le_trans k.2 p.2⟩
def lowC (c : UInt8) : UInt8 := if 65 ≤ c.toNat ∧ c.toNat ≤ 90 then c + 32 else c
theorem lowC_toNat (c : UInt8) (h : 65 ≤ c.toNat ∧ c.toNat ≤ 90) : ((lowC c).toNat : Int) = c.toNat + 32 := by
  unfold lowC
  rw [if_pos h, UInt8.toNat_add]
  have : (32 : UInt8).toNat = 32 := rfl
  omega
theorem wrap_u8 {x : Int} (h1 : 0 ≤ x) (h2 : x < 256) : IntKind.u8.wrap x = x := by
  have : IntKind.u8.wrap x = x % 256 := by simp [IntKind.wrap, IntKind.bits, IntKind.signed]
  omega
end Go.Pw
