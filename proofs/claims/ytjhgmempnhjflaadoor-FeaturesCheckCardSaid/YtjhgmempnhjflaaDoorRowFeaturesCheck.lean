import Derived.Test.YtjhgmempnhjflaaDoorFrame
import Derived.Test.YtjhgmempnhjflaaDoorFeatO
namespace Go.Proofs.YtjhgmempnhjflaaDoor.featuresCheck
open Go.ChangeShapes Go.WideShapes Go.ChangeAt Go.RowKit Go.Pw
set_option linter.unusedVariables false

set_option maxRecDepth 100000 in
theorem contract (H : Type) (enc : TypeId × Value → H) (W : World) (base : Nat) (args : Array Value) (ds gs : List (DataW H)) (before : List MemPlace)
    (hval : ∀ (j : Nat) t v, Tryd.f7.params[j]? = some t → args[j]? = some v → Value.okWide Tryd.prog W .any base t v)
    (hW : DataW.Whole enc Tryd.prog Tryd.f7.params.toList Rows.featuresCheckSpec.vars false W args.toList ds gs before) (hL : laidMetH Tryd.prog laid W) (hs : W.ShapedOpen Tryd.prog) :
    Calls Tryd.prog 7 args W fun e W' => ∃ v, e = .returned v ∧ Rows.featuresCheckSpec.post enc Tryd.prog Tryd.f7 false true false false W args v W' :=
  law_contract bulk laidOut (by kernel_rfl) (by kernel_rfl) (by kernel_rfl) (tb := 4) rfl Tryd.underlying4 hval hW (fun h1 h2 => by
    have h1' : ds.length = 3 := h1
    have h2' : gs.length = 0 := h2
    obtain rfl := List.eq_nil_of_length_eq_zero h2'
    match ds, h1' with
    | [_, _, _], _ => rfl) fun svs ha hw => by
    rw [Tryd.params7] at ha
    have hm : HasMax W := Tryd.laysM146.s1_3 W hs
    have hmax : maxLen = 9223372036854775807 := by kernel_rfl
    obtain ⟨s1, r1, rfl, a1, ha⟩ := ha
    obtain ⟨s2, r2, rfl, a2, ha⟩ := ha
    obtain ⟨s3, r3, rfl, a3, ha⟩ := ha
    obtain rfl := ha
    obtain ⟨X1, rfl, hf1, hz1⟩ := argOK_feat a1
    obtain ⟨l2, rfl, hl2⟩ := argOK_faults a2
    obtain ⟨b3, rfl⟩ := argOK_bool Tryd.underlying4 a3
    exact features_law W hm X1 hf1 hz1 false l2 hl2 b3

set_option maxRecDepth 100000 in
theorem reads (os : Os) {H : Type} (enc : TypeId × Value → H) : ∃ places, DataW.whole enc Tryd.prog ((start os).forCall (fun _ _ => 0) ⟨#[], #[.agg #[.int .i64 0, .int .i64 0, .int .i64 0, .int .i64 0, .int .i64 0, .int .i64 0, .int .i64 0, .int .i64 0, .string ⟨#[]⟩], .slice none 0 0, .bool false], []⟩).memory Tryd.f7.params.toList Rows.featuresCheckSpec.vars false #[.agg #[.int .i64 0, .int .i64 0, .int .i64 0, .int .i64 0, .int .i64 0, .int .i64 0, .int .i64 0, .int .i64 0, .string ⟨#[]⟩], .slice none 0 0, .bool false].toList 8 = some ([.agg [.lit (.int .i64 0), .lit (.int .i64 0), .lit (.int .i64 0), .lit (.int .i64 0), .lit (.int .i64 0), .lit (.int .i64 0), .lit (.int .i64 0), .lit (.int .i64 0), .lit (.string [])], .nil, .lit (.bool false)], [], places) :=
  ⟨[], by kernel_rfl⟩

set_option maxRecDepth 100000 in
theorem lifted (os : Os) (started : os.Started) (H : Type) (enc : TypeId × Value → H) (F : Stop.Interp) :
    ReturnsInHanded {} Tryd.checked os 7 .any ((OpenSpec.ofChange Rows.featuresCheckSpec).preRow enc Tryd.prog Tryd.f7 Rows.featuresCheckRow.domain false Rows.featuresCheckRow.laid) (((OpenSpec.ofChange Rows.featuresCheckSpec).at F).post enc Tryd.prog Tryd.f7 false true false false) := by
  obtain ⟨places, hx⟩ := reads os enc
  refine returnsInHanded_of_row (C := Tryd.checked) (s := OpenSpec.ofChange Rows.featuresCheckSpec) own started (by kernel_rfl) Tryd.func7
    (witness_row_at (enc := enc) (C := Tryd.checked) false (start os) #[.agg #[.int .i64 0, .int .i64 0, .int .i64 0, .int .i64 0, .int .i64 0, .int .i64 0, .int .i64 0, .int .i64 0, .string ⟨#[]⟩], .slice none 0 0, .bool false] (start_os os) (by kernel_rfl) (by kernel_rfl) (by kernel_rfl)
      (OpenSpec.preRow_of_cond 8 hx (by kernel_rfl) (fun k hk => by cases hk) (by kernel_rfl) (start_laid os _))) ?_
  intro W base args ds gs before hval hW _ _ _ hL hs _
  exact contract H enc W base args ds gs before hval hW hL hs

theorem said : Rows.FeaturesCheckSaid :=
  OpenClaim.holds_of_cond 7 Tryd.f7 rfl rfl rfl rfl rfl rfl rfl ⟨rfl, rfl, rfl, rfl, rfl⟩ rfl rfl rfl rfl rfl (by kernel_rfl) Tryd.func7 (by kernel_rfl)
    (of_decide_eq_true (by kernel_rfl)) (by unfold Func.isWrapper; first | (rw [if_pos (by decide +kernel)]; kernel_rfl) | (rw [if_neg (by decide +kernel)]; exact ⟨rfl, rfl⟩))
    (fun os started H enc _ F => by rw [OpenClaim.pre_eq_preRow]; exact lifted os started H enc F)

theorem plain (f : FuncId) (fn : Func) (hf : Tryd.pinned.checked.prog.funcNamed "wherryman/wherrylaw1.FeaturesCheck" = some f) (hfn : Tryd.pinned.checked.prog.funcs[f]? = some fn) :
    false = Tryd.pinned.checked.prog.looks [] ∧ ∀ (j : Nat) t, fn.params[j]? = some t → Tryd.pinned.checked.prog.wantsStandIn t = false := by
  obtain rfl : f = 7 := Option.some.inj ((show Tryd.prog.funcNamed "wherryman/wherrylaw1.FeaturesCheck" = some 7 by kernel_rfl).symm.trans hf) |>.symm
  obtain rfl : fn = Tryd.f7 := (Option.some.inj (Tryd.func7.symm.trans hfn)).symm
  refine ⟨by kernel_rfl, fun j t ht => ?_⟩
  rw [Tryd.params7] at ht
  have hm : t ∈ [39, 40, 4] := by simpa using Array.mem_of_getElem? ht
  have hall : ([39, 40, 4].all fun u => !Tryd.prog.wantsStandIn u) = true := by kernel_rfl
  exact (show Tryd.prog.wantsStandIn t = false by simpa using List.all_eq_true.1 hall t hm)

theorem card : Rows.FeaturesCheckCardSaid :=
  Claim7.holds_tied_plain_at .later [] _ _ _ _ said (fun _ h => by cases h) (by kernel_rfl) (fun _ h => by cases h) featuresCheck_row_tie rfl ⟨rfl, rfl⟩ (by kernel_rfl) rfl plain (by kernel_rfl)
#print axioms card
end Go.Proofs.YtjhgmempnhjflaaDoor.featuresCheck
