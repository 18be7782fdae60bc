import Derived.Test.YtokmndkkgbamfaaDoorDealB
import Derived.Shelf.Spec.SlicesGrow
namespace Go.Pw
open Go Go.RowKit Go.Proofs
set_option maxRecDepth 100000
set_option linter.unusedSimpArgs false
set_option linter.unusedVariables false

def growRen : Go.Shelf.Ren := ⟨fun | 4 => 27 | n => n, fun | 22 => 24 | 25 => 9 | n => n, fun | n => n⟩
theorem growLays : Lays8.n4 Tryd.prog growRen := {
  mixed := by kernel_rfl
  f4 := ⟨Tryd.f27.name, by kernel_rfl, Tryd.func27.trans (congrArg some (by kernel_rfl))⟩
  t0 := Tryd.underlying0
  a0 := Tryd.isAgg0
  z0 := Tryd.sizeOf0
  v0 := Tryd.zeroValue0
  t3 := Tryd.underlying3
  a3 := Tryd.isAgg3
  z3 := Tryd.sizeOf3
  v3 := Tryd.zeroValue3
  t4 := Tryd.underlying4
  a4 := Tryd.isAgg4
  z4 := Tryd.sizeOf4
  v4 := Tryd.zeroValue4
  t9 := Tryd.underlying9
  a9 := Tryd.isAgg9
  z9 := Tryd.sizeOf9
  v9 := Tryd.zeroValue9
  t20 := Tryd.underlying20
  a20 := Tryd.isAgg20
  z20 := Tryd.sizeOf20
  v20 := Tryd.zeroValue20
  t22 := Tryd.underlying24
  a22 := Tryd.isAgg24
  z22 := Tryd.sizeOf24
  v22 := Tryd.zeroValue24 }
theorem zeroCells_one (v : Value) (n : Nat) : Builtin.zeroCells #[v] n = Array.replicate n v := by
  apply Array.ext
  · simp [Builtin.zeroCells]
  · intro i h1 h2
    simp [Builtin.zeroCells, Nat.mod_one]
theorem zeroCells_add (v : Value) (a b : Nat) : Builtin.zeroCells #[v] a ++ Builtin.zeroCells #[v] b = Builtin.zeroCells #[v] (a + b) := by
  rw [zeroCells_one, zeroCells_one, zeroCells_one]; simp
theorem grow_fun (W0 : World) (n : Nat) (hn : n ≤ 1099511627776) {h0 h : Hp} (hb0 : hpOk h0) (K : Keeps h0 h) : PCalls Tryd.prog W0 27 [.one (.val (.slice none 0 0)), .one (pint (n : Nat))] h (fun r h' => RowIs 9 1 h0 h' r [] ∧ Keeps h0 h') := by
  refine ⟨⟨_, Tryd.func27, rfl, by kernel_rfl⟩, fun w m vs R hl hv => ?_⟩
  match vs, hl with
  | [v0, v1], _ =>
    have e0 : v0 = .slice none 0 0 := by have := hv 0 _ v0 rfl rfl; cases this; rfl
    have e1 : v1 = .int .i64 (n : Int) := by have := hv 1 _ v1 rfl rfl; cases this; rfl
    subst e0 e1
    by_cases hn0 : n = 0
    · subst hn0
      refine (Any8.slices_Grow_room growLays none 0 0 0 w (Nat.le_refl _) (by omega) (by omega) (by omega)).mono ?_
      rintro e w' ⟨rfl, rfl⟩
      exact ⟨_, .sv (.one (.val (.slice none 0 0))), h, m, rfl, ⟨.nil _ _ _ _, K⟩, .val _ rfl, R, Ext.refl _ _ _⟩
    · have hs9 : szOf Tryd.prog 9 = some 1 := by kernel_rfl
      have hb9 : bytesOf' Tryd.prog 9 = some 16 := by kernel_rfl
      have hz9 : zeroOf Tryd.prog 9 = some (.string ⟨#[]⟩) := by kernel_rfl
      obtain ⟨i0, hi, hsz⟩ := Option.map_eq_some_iff.1 hs9
      have hiz : i0.zero = some (.string ⟨#[]⟩) := by unfold zeroOf at hz9; rw [hi] at hz9; simpa using hz9
      have hib : i0.bytes = 16 := by unfold bytesOf' at hb9; rw [hi] at hb9; simpa using hb9
      refine (Any8.slices_Grow_grow growLays i0 (.string ⟨#[]⟩) hi hiz (by omega) none 0 0 n [] w (Nat.le_refl _) (by omega) (by rw [hib]; omega) (by omega) (by simp) (fun _ => rfl) (fun a h => nomatch h)).mono ?_
      rintro e w' ⟨rfl, rfl⟩
      have hge : 0 + n ≤ grownCap w (0 + n) 0 9 := grownCap_ge w _ _ _
      have hle := grownCap_le_maxLen w (0 + n) 0 9 (by unfold maxLen; omega)
      have hcells : (([] : List Value).toArray ++ Builtin.zeroCells (Value.string ⟨#[]⟩).cells (0 + n - 0) ++ Builtin.zeroCells (Value.string ⟨#[]⟩).cells (grownCap w (0 + n) 0 9 - (0 + n))) = ([] : List Value).toArray ++ Builtin.zeroCells (Value.string ⟨#[]⟩).cells (grownCap w (0 + n) 0 9 - 0) := by
        rw [Array.append_assoc, show (Value.string ⟨#[]⟩).cells = #[.string ⟨#[]⟩] from rfl, zeroCells_add]
        congr 2
        omega
      obtain ⟨s, h', m', h1, h2, h3, h4⟩ := append_born (N := fun r h' => RowIs 9 1 h0 h' r [] ∧ Keeps h0 h') (e := 9) (sz := 1) (n := 0) (cap := grownCap w (0 + n) 0 9) (z := .string ⟨#[]⟩) (all := []) (xs := []) R (by decide) rfl rfl rfl (Nat.zero_le _) hle (fun i es hi => by cases hi) rfl (congrArg (fun c => w.drew.alloc (.cells c 9)) hcells) (fun id hid => ⟨.made (Nat.le_trans K.2 hid), K.trans (.new (fun j b hj => R.bound j b hj) hid)⟩)
      exact ⟨_, s, h', m', rfl, h1, h2, h3, h4⟩
end Go.Pw
