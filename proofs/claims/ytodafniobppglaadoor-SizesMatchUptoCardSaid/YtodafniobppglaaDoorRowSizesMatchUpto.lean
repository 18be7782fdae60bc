import Derived.Test.YtodafniobppglaaDoorFrame7
import Derived.Test.YtodafniobppglaaDoorSizeL
import Derived.Stop.LaidErr
import Derived.Lib.LaidTab
namespace Go.Proofs.YtodafniobppglaaDoor.sizesMatchUpto
open Go.ChangeShapes Go.WideShapes Go.ChangeAt Go.RowKit Go.Pw
set_option linter.unusedVariables false
theorem hl {W : World} (h : laidMetH Tryd.prog laid W) : laidMet Tryd.prog laid W := by exact h
theorem powOf {W : World} (h : laidMet Tryd.prog laid W) : HasPow W :=
  Lib.tabIs_of_head (g := 5) (t := 200) (e := 73) (n := 20) (by kernel_rfl) (by kernel_rfl) Tryd.underlying200 Tryd.underlying73 (by kernel_rfl) (by kernel_rfl) (show laidMet Tryd.prog (("internal/strconv.uint64pow10", Lib.tabData .u64 Lib.pow10Tab) :: _) W from h.tail.tail)
theorem errOf {W : World} (h : laidMet Tryd.prog laid W) : HasErr W := by
  obtain ⟨a, s, hv, _⟩ := laid_sentinel (g := 1) (ti := 77) (tp := 196) (te := 198) (ts := 9) h.tail.tail.tail.tail (by kernel_rfl) (by kernel_rfl) Tryd.underlying77
    (fun u hu => typeName_ptr_named (nm := "errors.errorString") (by rw [show "*" ++ "errors.errorString" = "*errors.errorString" by decide]; kernel_rfl) (by kernel_rfl) (by decide) u (by rw [show "*" ++ "errors.errorString" = "*errors.errorString" by decide]; exact hu))
    Tryd.underlying196 Tryd.underlying198 rfl rfl Tryd.underlying9 (by kernel_rfl) (by kernel_rfl)
  exact ⟨_, by have := World.var?_cell (g := 1) (by kernel_rfl) hv 0; simpa using this, .inr ⟨_, _, rfl⟩⟩

set_option maxRecDepth 100000 in
theorem contract (H : Type) (enc : TypeId × Value → H) (W : World) (base : Nat) (args : Array Value) (ds gs : List (DataW H)) (before : List MemPlace)
    (hval : ∀ (j : Nat) t v, Tryd.f7.params[j]? = some t → args[j]? = some v → Value.okWide Tryd.prog W .any base t v)
    (hW : DataW.Whole enc Tryd.prog Tryd.f7.params.toList Rows.sizesMatchSpec.vars false W args.toList ds gs before) (hc : Rows.uptoBulkAll (ds ++ gs) ≤ 1048576) (hL : laidMetH Tryd.prog laid W) (hs : W.ShapedOpen Tryd.prog) :
    Calls Tryd.prog 7 args W fun e W' => ∃ v, e = .returned v ∧ Rows.sizesMatchSpec.post enc Tryd.prog Tryd.f7 false true false false W args v W' :=
  law_contract bulk laidOut (by kernel_rfl) (by kernel_rfl) (by kernel_rfl) (tb := 4) rfl Tryd.underlying4 hval hW (fun h1 h2 => by
    have h1' : ds.length = 2 := h1
    have h2' : gs.length = 0 := h2
    obtain rfl := List.eq_nil_of_length_eq_zero h2'
    match ds, h1' with
    | [_, _], _ => rfl) fun svs ha hw => by
    rw [Tryd.params7] at ha
    have hm : HasMax W := Tryd.laysM146.s1_3 W hs
    have hmax : maxLen = 9223372036854775807 := by kernel_rfl
    obtain ⟨s1, r1, rfl, a1, ha⟩ := ha
    obtain ⟨s2, r2, rfl, a2, ha⟩ := ha
    obtain rfl := ha
    obtain ⟨x1, rfl, hx1⟩ := argOK_str Tryd.underlying9 a1
    obtain ⟨z2, rfl, hz2⟩ := argOK_int Tryd.underlying3 a2
    simp only [List.map_cons, List.map_nil, List.sum_cons, List.sum_nil, svW, pvW, str_size] at hw
    have hc' := bks_append bulk ds gs
    exact sizes_law W hm (powOf (hl hL)) (errOf (hl hL)) x1 z2 (by omega)

set_option maxRecDepth 100000 in
theorem reads (os : Os) {H : Type} (enc : TypeId × Value → H) : ∃ places, DataW.whole enc Tryd.prog ((start os).forCall (fun _ _ => 0) ⟨#[], #[.string ⟨#[]⟩, .int .i64 0], []⟩).memory Tryd.f7.params.toList Rows.sizesMatchSpec.vars false #[.string ⟨#[]⟩, .int .i64 0].toList 8 = some ([.lit (.string []), .lit (.int .i64 0)], [], places) :=
  ⟨[], by kernel_rfl⟩

set_option maxRecDepth 100000 in
theorem lifted (os : Os) (started : os.Started) (H : Type) (enc : TypeId × Value → H) (F : Stop.Interp) :
    ReturnsInHanded {} Tryd.checked os 7 .any ((Rows.OpenSpec.upto Rows.sizesMatchSpec).preRow enc Tryd.prog Tryd.f7 Rows.sizesMatchUptoRow.domain false Rows.sizesMatchUptoRow.laid) (((Rows.OpenSpec.upto Rows.sizesMatchSpec).at F).post enc Tryd.prog Tryd.f7 false true false false) := by
  obtain ⟨places, hx⟩ := reads os enc
  refine returnsInHanded_of_row (C := Tryd.checked) (s := Rows.OpenSpec.upto Rows.sizesMatchSpec) own started (by kernel_rfl) Tryd.func7
    (witness_row_at (enc := enc) (C := Tryd.checked) false (start os) #[.string ⟨#[]⟩, .int .i64 0] (start_os os) (by kernel_rfl) (by kernel_rfl) (by kernel_rfl)
      (OpenSpec.preRow_of_cond 8 hx (by kernel_rfl) (fun k hk => by cases hk; kernel_rfl) (by kernel_rfl) (start_laid os _))) ?_
  intro W base args ds gs before hval hW _ hcond _ hL hs _
  exact contract H enc W base args ds gs before hval hW (of_decide_eq_true (hcond _ rfl)) hL hs

theorem said : Rows.SizesMatchUptoSaid :=
  OpenClaim.holds_of_cond 7 Tryd.f7 rfl rfl rfl rfl rfl rfl rfl ⟨rfl, rfl, rfl, rfl, rfl⟩ rfl rfl rfl rfl rfl (by kernel_rfl) Tryd.func7 (by kernel_rfl)
    (of_decide_eq_true (by kernel_rfl)) (by unfold Func.isWrapper; first | (rw [if_pos (by decide +kernel)]; kernel_rfl) | (rw [if_neg (by decide +kernel)]; exact ⟨rfl, rfl⟩))
    (fun os started H enc _ F => by rw [OpenClaim.pre_eq_preRow]; exact lifted os started H enc F)

theorem plain (f : FuncId) (fn : Func) (hf : Tryd.pinned.checked.prog.funcNamed "wherryman/wherrylaw1.SizesMatch" = some f) (hfn : Tryd.pinned.checked.prog.funcs[f]? = some fn) :
    true = Tryd.pinned.checked.prog.looks [] ∧ ∀ (j : Nat) t, fn.params[j]? = some t → Tryd.pinned.checked.prog.wantsStandIn t = false := by
  obtain rfl : f = 7 := Option.some.inj ((show Tryd.prog.funcNamed "wherryman/wherrylaw1.SizesMatch" = some 7 by kernel_rfl).symm.trans hf) |>.symm
  obtain rfl : fn = Tryd.f7 := (Option.some.inj (Tryd.func7.symm.trans hfn)).symm
  refine ⟨by kernel_rfl, fun j t ht => ?_⟩
  rw [Tryd.params7] at ht
  have hm : t ∈ [9, 3] := by simpa using Array.mem_of_getElem? ht
  have hall : ([9, 3].all fun u => !Tryd.prog.wantsStandIn u) = true := by kernel_rfl
  exact (show Tryd.prog.wantsStandIn t = false by simpa using List.all_eq_true.1 hall t hm)

theorem card : Rows.SizesMatchUptoCardSaid :=
  Claim7.holds_tied_plain_at .later [] _ _ _ _ said (fun _ h => by cases h) (by kernel_rfl) (fun _ h => by cases h) sizesMatchUpto_row_tie rfl ⟨rfl, rfl⟩ (by kernel_rfl) rfl plain (by kernel_rfl)
#print axioms card
end Go.Proofs.YtodafniobppglaaDoor.sizesMatchUpto
