import Derived.Test.YtomkpdnnimcapaaDoorFrame6
import Derived.Test.YtomkpdnnimcapaaDoorShL
import Derived.Test.YtomkpdnnimcapaaDoorPwV
namespace Go.Proofs.YtomkpdnnimcapaaDoor.topShared
open Go.ChangeShapes Go.WideShapes Go.ChangeAt Go.RowKit Go.Pw
set_option linter.unusedVariables false

set_option maxRecDepth 100000 in
theorem contract (H : Type) (enc : TypeId × Value → H) (W : World) (base : Nat) (args : Array Value) (ds gs : List (DataW H)) (before : List MemPlace)
    (hval : ∀ (j : Nat) t v, Tryd.f3.params[j]? = some t → args[j]? = some v → Value.okWide Tryd.prog W .any base t v)
    (hW : DataW.Whole enc Tryd.prog Tryd.f3.params.toList Rows.topSharedSpec.vars false W args.toList ds gs before) (hL : laidMetH Tryd.prog laid W) (hs : W.ShapedOpen Tryd.prog) :
    Calls Tryd.prog 3 args W fun e W' => ∃ v, e = .returned v ∧ Rows.topSharedSpec.post enc Tryd.prog Tryd.f3 false true false false W args v W' :=
  law_contract bulk laidOut (by kernel_rfl) (by kernel_rfl) (by kernel_rfl) (tb := 4) rfl Tryd.underlying4 hval hW (fun h1 h2 => by
    have h1' : ds.length = 5 := h1
    have h2' : gs.length = 0 := h2
    obtain rfl := List.eq_nil_of_length_eq_zero h2'
    match ds, h1' with
    | [_, _, _, _, _], _ => rfl) fun svs ha hw => by
    rw [Tryd.params3] at ha
    have hm : HasMax W := Tryd.laysM146.s1_3 W hs
    have hmax : maxLen = 9223372036854775807 := by kernel_rfl
    obtain ⟨s1, r1, rfl, a1, ha⟩ := ha
    obtain ⟨s2, r2, rfl, a2, ha⟩ := ha
    obtain ⟨s3, r3, rfl, a3, ha⟩ := ha
    obtain ⟨s4, r4, rfl, a4, ha⟩ := ha
    obtain ⟨s5, r5, rfl, a5, ha⟩ := ha
    obtain rfl := ha
    obtain ⟨x1, rfl, hx1⟩ := argOK_str Tryd.underlying9 a1
    obtain ⟨x2, rfl, hx2⟩ := argOK_str Tryd.underlying9 a2
    obtain ⟨z3, rfl, hz3⟩ := argOK_int Tryd.underlying3 a3
    obtain ⟨z4, rfl, hz4⟩ := argOK_int Tryd.underlying3 a4
    obtain ⟨p5, rfl, hp5⟩ := argOK_row Tryd.underlying22 a5
    obtain ⟨l5, rfl, hl5, hi5⟩ := tyOK_ints Tryd.underlying22 Tryd.underlying3 (by kernel_rfl) hp5
    exact shared_law W hm x1 x2 z3 z4 l5 (by omega) (by omega) (by omega)

set_option maxRecDepth 100000 in
theorem reads (os : Os) {H : Type} (enc : TypeId × Value → H) : ∃ places, DataW.whole enc Tryd.prog ((start os).forCall (fun _ _ => 0) ⟨#[], #[.string ⟨#[]⟩, .string ⟨#[]⟩, .int .i64 0, .int .i64 0, .slice none 0 0], []⟩).memory Tryd.f3.params.toList Rows.topSharedSpec.vars false #[.string ⟨#[]⟩, .string ⟨#[]⟩, .int .i64 0, .int .i64 0, .slice none 0 0].toList 8 = some ([.lit (.string []), .lit (.string []), .lit (.int .i64 0), .lit (.int .i64 0), .nil], [], places) :=
  ⟨[], by kernel_rfl⟩

set_option maxRecDepth 100000 in
theorem lifted (os : Os) (started : os.Started) (H : Type) (enc : TypeId × Value → H) (F : Stop.Interp) :
    ReturnsInHanded {} Tryd.checked os 3 .any ((OpenSpec.ofChange Rows.topSharedSpec).preRow enc Tryd.prog Tryd.f3 Rows.topSharedRow.domain false Rows.topSharedRow.laid) (((OpenSpec.ofChange Rows.topSharedSpec).at F).post enc Tryd.prog Tryd.f3 false true false false) := by
  obtain ⟨places, hx⟩ := reads os enc
  refine returnsInHanded_of_row (C := Tryd.checked) (s := OpenSpec.ofChange Rows.topSharedSpec) own started (by kernel_rfl) Tryd.func3
    (witness_row_at (enc := enc) (C := Tryd.checked) false (start os) #[.string ⟨#[]⟩, .string ⟨#[]⟩, .int .i64 0, .int .i64 0, .slice none 0 0] (start_os os) (by kernel_rfl) (by kernel_rfl) (by kernel_rfl)
      (OpenSpec.preRow_of_cond 8 hx (by kernel_rfl) (fun k hk => by cases hk) (by kernel_rfl) (start_laid os _))) ?_
  intro W base args ds gs before hval hW _ _ _ hL hs _
  exact contract H enc W base args ds gs before hval hW hL hs

theorem said : Rows.TopSharedSaid :=
  OpenClaim.holds_of_cond 3 Tryd.f3 rfl rfl rfl rfl rfl rfl rfl ⟨rfl, rfl, rfl, rfl, rfl⟩ rfl rfl rfl rfl rfl (by kernel_rfl) Tryd.func3 (by kernel_rfl)
    (of_decide_eq_true (by kernel_rfl)) (by unfold Func.isWrapper; first | (rw [if_pos (by decide +kernel)]; kernel_rfl) | (rw [if_neg (by decide +kernel)]; exact ⟨rfl, rfl⟩))
    (fun os started H enc _ F => by rw [OpenClaim.pre_eq_preRow]; exact lifted os started H enc F)

theorem plain (f : FuncId) (fn : Func) (hf : Tryd.pinned.checked.prog.funcNamed "wherryman/wherrytop.TopShared" = some f) (hfn : Tryd.pinned.checked.prog.funcs[f]? = some fn) :
    false = Tryd.pinned.checked.prog.looks [] ∧ ∀ (j : Nat) t, fn.params[j]? = some t → Tryd.pinned.checked.prog.wantsStandIn t = false := by
  obtain rfl : f = 3 := Option.some.inj ((show Tryd.prog.funcNamed "wherryman/wherrytop.TopShared" = some 3 by kernel_rfl).symm.trans hf) |>.symm
  obtain rfl : fn = Tryd.f3 := (Option.some.inj (Tryd.func3.symm.trans hfn)).symm
  refine ⟨by kernel_rfl, fun j t ht => ?_⟩
  rw [Tryd.params3] at ht
  have hm : t ∈ [9, 9, 3, 3, 22] := by simpa using Array.mem_of_getElem? ht
  have hall : ([9, 9, 3, 3, 22].all fun u => !Tryd.prog.wantsStandIn u) = true := by kernel_rfl
  exact (show Tryd.prog.wantsStandIn t = false by simpa using List.all_eq_true.1 hall t hm)

theorem card : Rows.TopSharedCardSaid :=
  Claim7.holds_tied_plain_at .later [] _ _ _ _ said (fun _ h => by cases h) (by kernel_rfl) (fun _ h => by cases h) topShared_row_tie rfl ⟨rfl, rfl⟩ (by kernel_rfl) rfl plain (by kernel_rfl)
#print axioms card
end Go.Proofs.YtomkpdnnimcapaaDoor.topShared
