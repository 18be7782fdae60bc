import Derived.Test.YtjhgmempnhjflaaDoorFrame
import Derived.Test.YtjhgmempnhjflaaDoorJoins
namespace Go.Proofs.YtjhgmempnhjflaaDoor.namesJoinUpto
open Go.ChangeShapes Go.WideShapes Go.ChangeAt Go.RowKit Go.Pw
set_option linter.unusedVariables false

set_option maxRecDepth 100000 in
theorem contract (H : Type) (enc : TypeId × Value → H) (W : World) (base : Nat) (args : Array Value) (ds gs : List (DataW H)) (before : List MemPlace)
    (hval : ∀ (j : Nat) t v, Tryd.f8.params[j]? = some t → args[j]? = some v → Value.okWide Tryd.prog W .any base t v)
    (hW : DataW.Whole enc Tryd.prog Tryd.f8.params.toList Rows.namesJoinSpec.vars false W args.toList ds gs before) (hc : Rows.uptoBulkAll (ds ++ gs) ≤ 1048576) (hL : laidMetH Tryd.prog laid W) (hs : W.ShapedOpen Tryd.prog) :
    Calls Tryd.prog 8 args W fun e W' => ∃ v, e = .returned v ∧ Rows.namesJoinSpec.post enc Tryd.prog Tryd.f8 false true false false W args v W' :=
  law_contract bulk laidOut (by kernel_rfl) (by kernel_rfl) (by kernel_rfl) (tb := 4) rfl Tryd.underlying4 hval hW (fun h1 h2 => by
    have h1' : ds.length = 1 := h1
    have h2' : gs.length = 0 := h2
    obtain rfl := List.eq_nil_of_length_eq_zero h2'
    match ds, h1' with
    | [_], _ => rfl) fun svs ha hw => by
    rw [Tryd.params8] at ha
    have hm : HasMax W := Tryd.laysM146.s1_3 W hs
    have hmax : maxLen = 9223372036854775807 := by kernel_rfl
    obtain ⟨s1, r1, rfl, a1, ha⟩ := ha
    obtain rfl := ha
    obtain ⟨p1, rfl, hp1⟩ := argOK_row Tryd.underlying49 a1
    obtain ⟨l1, rfl, hl1, hi1⟩ := tyOK_strs Tryd.underlying49 Tryd.underlying9 (by kernel_rfl) hp1
    have hb := join_bulk 47 l1
    simp only [List.map_cons, List.map_nil, List.sum_cons, List.sum_nil, svW, pvW] at hw
    have hc' := bks_append bulk ds gs
    exact fun h => join_law W hm false l1 (by omega) (by omega) h

set_option maxRecDepth 100000 in
theorem reads (os : Os) {H : Type} (enc : TypeId × Value → H) : ∃ places, DataW.whole enc Tryd.prog ((start os).forCall (fun _ _ => 0) ⟨#[], #[.slice none 0 0], []⟩).memory Tryd.f8.params.toList Rows.namesJoinSpec.vars false #[.slice none 0 0].toList 8 = some ([.nil], [], places) :=
  ⟨[], by kernel_rfl⟩

set_option maxRecDepth 100000 in
theorem lifted (os : Os) (started : os.Started) (H : Type) (enc : TypeId × Value → H) (F : Stop.Interp) :
    ReturnsInHanded {} Tryd.checked os 8 .any ((Rows.OpenSpec.upto Rows.namesJoinSpec).preRow enc Tryd.prog Tryd.f8 Rows.namesJoinUptoRow.domain false Rows.namesJoinUptoRow.laid) (((Rows.OpenSpec.upto Rows.namesJoinSpec).at F).post enc Tryd.prog Tryd.f8 false true false false) := by
  obtain ⟨places, hx⟩ := reads os enc
  refine returnsInHanded_of_row (C := Tryd.checked) (s := Rows.OpenSpec.upto Rows.namesJoinSpec) own started (by kernel_rfl) Tryd.func8
    (witness_row_at (enc := enc) (C := Tryd.checked) false (start os) #[.slice none 0 0] (start_os os) (by kernel_rfl) (by kernel_rfl) (by kernel_rfl)
      (OpenSpec.preRow_of_cond 8 hx (by kernel_rfl) (fun k hk => by cases hk; kernel_rfl) (by kernel_rfl) (start_laid os _))) ?_
  intro W base args ds gs before hval hW _ hcond _ hL hs _
  exact contract H enc W base args ds gs before hval hW (of_decide_eq_true (hcond _ rfl)) hL hs

theorem said : Rows.NamesJoinUptoSaid :=
  OpenClaim.holds_of_cond 8 Tryd.f8 rfl rfl rfl rfl rfl rfl rfl ⟨rfl, rfl, rfl, rfl, rfl⟩ rfl rfl rfl rfl rfl (by kernel_rfl) Tryd.func8 (by kernel_rfl)
    (of_decide_eq_true (by kernel_rfl)) (by unfold Func.isWrapper; first | (rw [if_pos (by decide +kernel)]; kernel_rfl) | (rw [if_neg (by decide +kernel)]; exact ⟨rfl, rfl⟩))
    (fun os started H enc _ F => by rw [OpenClaim.pre_eq_preRow]; exact lifted os started H enc F)

theorem plain (f : FuncId) (fn : Func) (hf : Tryd.pinned.checked.prog.funcNamed "wherryman/wherrylaw1.NamesJoin" = some f) (hfn : Tryd.pinned.checked.prog.funcs[f]? = some fn) :
    false = Tryd.pinned.checked.prog.looks [] ∧ ∀ (j : Nat) t, fn.params[j]? = some t → Tryd.pinned.checked.prog.wantsStandIn t = false := by
  obtain rfl : f = 8 := Option.some.inj ((show Tryd.prog.funcNamed "wherryman/wherrylaw1.NamesJoin" = some 8 by kernel_rfl).symm.trans hf) |>.symm
  obtain rfl : fn = Tryd.f8 := (Option.some.inj (Tryd.func8.symm.trans hfn)).symm
  refine ⟨by kernel_rfl, fun j t ht => ?_⟩
  rw [Tryd.params8] at ht
  have hm : t ∈ [49] := by simpa using Array.mem_of_getElem? ht
  have hall : ([49].all fun u => !Tryd.prog.wantsStandIn u) = true := by kernel_rfl
  exact (show Tryd.prog.wantsStandIn t = false by simpa using List.all_eq_true.1 hall t hm)

theorem card : Rows.NamesJoinUptoCardSaid :=
  Claim7.holds_tied_plain_at .later [] _ _ _ _ said (fun _ h => by cases h) (by kernel_rfl) (fun _ h => by cases h) namesJoinUpto_row_tie rfl ⟨rfl, rfl⟩ (by kernel_rfl) rfl plain (by kernel_rfl)
#print axioms card
end Go.Proofs.YtjhgmempnhjflaaDoor.namesJoinUpto
