/- Own work: part of the proof of the row YtlghclplgbijjaaDoorRowFilterChecksUpto; no condition of its own. -/
import Derived.Test.YtlghclplgbijjaaDoorFacts
import Derived.Test.YtlghclplgbijjaaDoorShelf
import Derived.Test.YtlghclplgbijjaaDoorPwY
namespace Go.Pw
open Go Go.RowKit Go.Proofs
set_option maxRecDepth 100000
set_option linter.unusedSimpArgs false
set_option linter.unusedVariables false
theorem mixed : Tryd.prog.follows .mixedOrders = true := by kernel_rfl
def HasMax (W0 : World) : Prop := ∃ m, W0.cell? ⟨0, 0, none⟩ = some (.int .i64 m)
theorem nm37 : (Tryd.f37.name == "runtime.NumGoroutine") = false := by kernel_rfl
theorem split_fun (W0 : World) (hm : HasMax W0) (s : List UInt8) (c : UInt8) (hs : s.length < 4294967281) :
    PFun Tryd.prog W0 37 [.one (pstr s), .one (.val (.string ⟨#[c]⟩))] (.sv (.one (.ro true 1 (pstrs (spl c s))))) := by
  obtain ⟨m, hm⟩ := hm
  refine pfun_newstrs (P := Tryd.prog) (vals := [.string ⟨s.toArray⟩, .string ⟨#[c]⟩]) (n := Lib.countB ⟨s.toArray⟩ ⟨#[c]⟩ + 1) (ty := 9) ⟨_, Tryd.func37, rfl, nm37⟩ ?_ fun w hb => ?_
  · rw [spl_length, Lib.countB]
    simp [Lib.count_one]
  · refine (Tryd.strings_Split ⟨s.toArray⟩ ⟨#[c]⟩ m w (by rw [str_size]; exact hs) (cell_below hb hm) (Nat.le_refl _)).mono ?_
    rintro e w' ⟨rfl, rfl⟩
    refine ⟨rfl, ?_⟩
    have hd := Lib.splitB_data ⟨#[c]⟩ 0 (Lib.countB ⟨s.toArray⟩ ⟨#[c]⟩) ⟨s.toArray⟩
    have e : (Lib.splitB ⟨#[c]⟩ 0 (Lib.countB ⟨s.toArray⟩ ⟨#[c]⟩) ⟨s.toArray⟩) = (spl c s).map fun x => (⟨x.toArray⟩ : ByteArray) := by
      rw [← split_spl, Lib.split]
      have e2 : Lib.splitK [c] 0 (Lib.count s [c]) s = Lib.splitK (⟨#[c]⟩ : ByteArray).data.toList 0 (Lib.countB ⟨s.toArray⟩ ⟨#[c]⟩) (⟨s.toArray⟩ : ByteArray).data.toList := by simp [Lib.countB]
      rw [e2, ← hd, List.map_map]
      symm
      rw [List.map_congr_left (g := id) (fun x _ => by simp)]
      simp
    rw [e, List.map_map]
    rfl
def checkR (isNameR : List UInt8 → Bool) (s : List UInt8) : Int := if s = [] then 0 else if 1024 < s.length then 1 else if (spl 47 s).all isNameR then 0 else 1
end Go.Pw
