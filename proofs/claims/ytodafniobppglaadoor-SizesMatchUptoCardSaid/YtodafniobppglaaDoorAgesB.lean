import Derived.Test.YtodafniobppglaaDoorAgesP
import Derived.Test.YtodafniobppglaaDoorPwY
import Derived.Shelf.Strings.SlTrimAscii
namespace Go.Pw
open Go Go.RowKit Go.Proofs
set_option maxRecDepth 100000
set_option linter.unusedSimpArgs false
set_option linter.unusedVariables false
def HasPow (W0 : World) : Prop := Lib.TabIs Tryd.prog W0 "internal/strconv.uint64pow10" .u64 Lib.pow10Tab
def HasErr (W0 : World) : Prop := ∃ ev, W0.cell? ⟨1, 0, none⟩ = some ev ∧ (ev = .nilIface ∨ ∃ te pe, ev = .iface te pe)
theorem pow_below {W0 w : World} (hb : Below W0.heap.size W0 w) (h : HasPow W0) : Lib.TabIs Tryd.prog w "internal/strconv.uint64pow10" .u64 Lib.pow10Tab := by
  have e : Tryd.prog.globalNamed "internal/strconv.uint64pow10" = some 5 := by kernel_rfl
  unfold HasPow Lib.TabIs World.var? at h
  unfold Lib.TabIs World.var?
  simp only [e, Option.bind_some] at h ⊢
  have hlt : 5 < W0.heap.size := by
    rcases Nat.lt_or_ge 5 W0.heap.size with h' | h'
    · exact h'
    · simp [Array.getElem?_eq_none h'] at h
  rw [hb.block 5 hlt]
  exact h
theorem below_gr (w : World) (k : Nat) (os : Array Obj) : Below w.heap.size w (Go.Sort.grow (w.drewN k) os) :=
  ⟨rfl, rfl, rfl, by show w.heap.size ≤ (w.heap ++ os).size; simp, fun j hj => by show (w.heap ++ os)[j]? = w.heap[j]?; exact Array.getElem?_append_left hj⟩
theorem hasItoa : Has Tryd.prog 54 := ⟨_, Tryd.func54, rfl, by kernel_rfl⟩
theorem itoa_fun (W0 : World) (hp : HasPow W0) (n : Nat) (hn : n ≤ 9223372036854775807) : PFun Tryd.prog W0 54 [.one (pint (n : Int))] (.sv (.one (pstr (Lib.decDigits n)))) := by
  have e : Lib.itoa (n : Int) = Lib.decDigits n := by unfold Lib.itoa; rw [if_neg (by omega)]; simp
  exact pfun_below (vals := [.int .i64 n]) hasItoa rfl fun w hb => (Tryd.strconv_Itoa n (by omega) (by omega) w (pow_below hb hp)).mono fun e' w' ⟨h1, k, os, h2⟩ => ⟨by rw [h1, e], h2 ▸ below_gr w k os⟩
theorem hasToError : Has Tryd.prog 94 := ⟨_, Tryd.func94, rfl, by kernel_rfl⟩
theorem toError_fun (W0 : World) (hE : HasErr W0) (fn s : List UInt8) (b bits : Int) (hs : s.length ≤ 281474976710656) :
    PFun Tryd.prog W0 94 [.one (pstr fn), .one (pstr s), .one (pint b), .one (pint bits), .one (.ifc 156 false [pint 1])] (.sv (.one .ifn)) := by
  refine fun h => ⟨hasToError, fun w m vs R hl hv => ?_⟩
  match vs, hl with
  | [v0, v1, v2, v3, v4], _ =>
    have e0 : v0 = .string ⟨fn.toArray⟩ := by have := hv 0 _ v0 rfl rfl; cases this; rfl
    have e1 : v1 = .string ⟨s.toArray⟩ := by have := hv 1 _ v1 rfl rfl; cases this; rfl
    have e2 : v2 = .int .i64 b := by have := hv 2 _ v2 rfl rfl; cases this; rfl
    have e3 : v3 = .int .i64 bits := by have := hv 3 _ v3 rfl rfl; cases this; rfl
    have e4 : v4 = .iface 156 (.int .i64 1) := by
      have := hv 4 _ v4 rfl rfl
      cases this with
      | ifc1 _ _ v hv2 => cases hv2; rfl
    subst e0 e1 e2 e3 e4
    obtain ⟨ev, hc, hev⟩ := hE
    refine (Tryd.strconv_toError_range ⟨fn.toArray⟩ ⟨s.toArray⟩ b bits ev w (by rw [str_size]; exact hs) (cell_below R.below hc) hev).mono ?_
    rintro e w' ⟨N, rfl, hN, hcell, hB⟩
    exact ⟨_, _, h, m, rfl, ⟨rfl, .refl _⟩, .ifn _ _, R.grow hB, Ext.grow hB⟩
theorem hasTrimLeft : Has Tryd.prog 51 := ⟨_, Tryd.func51, rfl, by kernel_rfl⟩
abbrev D10 : List UInt8 := [48, 49, 50, 51, 52, 53, 54, 55, 56, 57]
theorem d10 (c : UInt8) : D10.contains c = digitB c := all_u8 (Q := fun c => D10.contains c = digitB c) (by decide +kernel) c
theorem trimLeft_fun (W0 : World) (s : List UInt8) : PFun Tryd.prog W0 51 [.one (pstr s), .one (pstr D10)] (.sv (.one (pstr (s.dropWhile digitB)))) := by
  have e : Lib.trimLeftS s D10 = s.dropWhile digitB := by
    unfold Lib.trimLeftS
    congr 1
    funext c
    exact d10 c
  refine pfun_below (vals := [.string ⟨s.toArray⟩, .string ⟨D10.toArray⟩]) hasTrimLeft rfl fun w hb => (Any.strings_TrimLeft_laid Tryd.lays161 (by kernel_rfl) ⟨s.toArray⟩ ⟨D10.toArray⟩ w (by decide) (ascii_of_all (by decide))).mono fun e' w' ⟨h1, h2⟩ => ⟨?_, h2⟩
  rw [h1, ← e]
end Go.Pw
