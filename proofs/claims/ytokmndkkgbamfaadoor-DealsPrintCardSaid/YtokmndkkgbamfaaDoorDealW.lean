import Derived.Test.YtokmndkkgbamfaaDoorDealB
namespace Go.Pw
open Go Go.RowKit Go.Proofs
set_option maxRecDepth 100000
set_option linter.unusedSimpArgs false
set_option linter.unusedVariables false
theorem liesAt_var {P : Program} {e : TypeId} {k count : Nat} (hk : P.cellsOf e = k) (hk0 : 0 < k) (hc : 1 ≤ count) : liesAt P P.depth e count 0 e 1 = true := by
  have hd : P.depth = (2 * (P.types.size + Made.depth) + 1) + 1 := rfl
  rw [hd]
  simp only [liesAt, Bool.or_eq_true]
  left
  rw [hd]
  simp [rowAt, hk, sameLayout]
  omega
theorem tbInfo : ∃ j, Tryd.prog.info? 45 = some j ∧ j.size = 2 := by
  have h : szOf Tryd.prog 45 = some 2 := by kernel_rfl
  obtain ⟨j, h1, h2⟩ := Option.map_eq_some_iff.1 h
  exact ⟨j, h1, h2⟩
set_option maxRecDepth 100000 in
theorem copyCheck_used (b : Nat) (w : World) (h0 : w.cell? ⟨b, 0, none⟩ = some (.pointer (some ⟨b, 0, none⟩))) :
    Calls Tryd.prog 28 #[.pointer (some ⟨b, 0, none⟩)] w fun e w' => e = .returned (.tuple #[]) ∧ w' = w := by
  obtain ⟨j, hj, _⟩ := tbInfo
  go_enter Tryd.func28, Tryd.ntmps28
  go_wp2
  rw [Lib.run_neq_ptr_same w _ Tryd.underlying42 hj]
  go_wp2
  go_end0
  exact ⟨rfl, rfl⟩
set_option maxRecDepth 100000 in
theorem copyCheck_fresh (b k : Nat) (w : World) (h0 : w.cell? ⟨b, 0, none⟩ = some (.pointer none)) (hsh : w.shape? b = some (45, k)) (hk : 2 ≤ k) (hfz : w.frozen? ⟨b, 0, none⟩ = false) :
    Calls Tryd.prog 28 #[.pointer (some ⟨b, 0, none⟩)] w fun e w' => e = .returned (.tuple #[]) ∧ w' = w.setCell ⟨b, 0, none⟩ (.pointer (some ⟨b, 0, none⟩)) := by
  obtain ⟨j, hj, hjs⟩ := tbInfo
  have hlies : liesAt Tryd.prog Tryd.prog.depth 45 (k / Tryd.prog.cellsOf 45) 0 45 1 = true :=
    liesAt_var (k := 2) (by kernel_rfl) (by decide) (by rw [show Tryd.prog.cellsOf 45 = 2 by kernel_rfl]; omega)
  go_enter Tryd.func28, Tryd.ntmps28
  go_wp2
  rw [Lib.run_to_unsafe w ⟨b, 0, none⟩ Tryd.underlying42 Tryd.underlying65 hj (by rw [hjs]; decide) hsh (by show 0 < k; omega)]
  simp only [Result.andThen]
  rw [Oper.upon_value]
  go_wp2
  rw [run_callFunc_extern Tryd.func35 (by kernel_rfl) (by kernel_rfl) (by kernel_rfl) (e := Extern.AbiNoEscape.same) (by kernel_rfl), Lib.run_noEscape]
  simp only [Result.andThen]
  rw [Oper.upon_value]
  go_wp2
  rw [Lib.run_from_unsafe w ⟨b, 0, none⟩ Tryd.underlying65 Tryd.underlying42 hj hsh hlies]
  simp only [Result.andThen]
  rw [Oper.upon_value]
  go_wp2
  go_end0
  exact ⟨rfl, rfl⟩
theorem hasCopyCheck : Has Tryd.prog 28 := ⟨_, Tryd.func28, rfl, by kernel_rfl⟩
theorem copyCheck_bld (W0 : World) {h0 h : Hp} {id : Nat} {a buf : PV} {l : List UInt8} (ha : a = .val (.pointer none) ∨ a = .ptr id 0 0 0) (B : BldU 45 5 h0 h id a buf l) :
    PCalls Tryd.prog W0 28 [.one (.ptr id 0 0 0)] h (fun r h' => r = .tup [] ∧ BldU 45 5 h0 h' id (.ptr id 0 0 0) buf l) := by
  refine ⟨hasCopyCheck, fun w m vs R hl hv => ?_⟩
  match vs, hl with
  | [v0], _ =>
    have hv0 := hv 0 _ v0 rfl rfl
    have hblk := B.blk
    obtain ⟨h00, cur, fr, hg, hcur, hes, hcap, hpl, hfr, hc⟩ := R.live id _ hblk
    obtain rfl := hpl rfl
    cases hv0 with
    | ptr _ _ _ _ ad hid hver hb =>
      obtain rfl := hb _ hblk rfl
      simp only [Nat.zero_mul, Nat.zero_add, List.length_cons, List.length_nil, Nat.add_zero] at hcur hes hc ⊢
      obtain ⟨c0, hc0, hr0⟩ := (hc 0 [a, buf] rfl).2 0 a rfl
      obtain ⟨c1, hc1, hr1⟩ := (hc 0 [a, buf] rfl).2 1 buf rfl
      simp only [Nat.zero_mul, Nat.zero_add] at hc0 hc1
      have h2s : 2 ≤ cur.size := by
        have e1 : cur.size = (m id).2 * 2 := hcur
        have e2 : 1 ≤ (m id).2 := hes
        omega
      have hcell : w.cell? ⟨(m id).1, 0, none⟩ = some c0 := by rw [cell_of_row w _ _ cur 45 _ hg]; exact hc0
      have hptr : VR w h m (.ptr id 0 0 0) (.pointer (some ⟨(m id).1, 0, none⟩)) := .ptr _ _ _ _ _ hid hver fun b2 h1 h2 => by
        rw [hblk] at h1
        obtain rfl := Option.some.inj h1
        simp
      rcases ha with rfl | rfl
      · cases hr0
        refine (copyCheck_fresh (m id).1 cur.size w hcell (by simp [World.shape?, hg]) (by omega) (by simp [World.frozen?, hg])).mono ?_
        rintro e w' ⟨rfl, rfl⟩
        rw [setCell_eq_setRow w (m id).1 0 cur 45 (0, 0) _ hg]
        have X := HR.upd R hblk (bldBlk 45 (.ptr id 0 0 0) buf) (m id).1 (m id).2 (w' := w.setRow (m id).1 (cur.setIfInBounds 0 (.pointer (some ⟨(m id).1, 0, none⟩)))) rfl rfl rfl (by simp) (fun k _ hk => setRow_other w _ k _ hk) (.inl rfl) (Nat.le_refl _) (fun _ => ⟨rfl, rfl, rfl, rfl⟩)
          ⟨cur.setIfInBounds 0 (.pointer (some ⟨(m id).1, 0, none⟩)), (0, 0), (show 0 < 2 from Nat.two_pos), setRow_heap w _ cur _ 45 _ hg, by simpa using hcur, by simpa using hes, hcap, fun _ => rfl, .inl (Nat.le_refl _), fun i es hi => by
            match i, hi with
            | 0, hi =>
              obtain rfl := Option.some.inj hi
              refine ⟨rfl, fun j p hj => ?_⟩
              match j, hj with
              | 0, hj => obtain rfl := Option.some.inj hj; exact ⟨_, by rw [Nat.zero_mul, Nat.zero_add, Array.getElem?_setIfInBounds_self_of_lt (by omega)], hptr⟩
              | 1, hj => obtain rfl := Option.some.inj hj; exact ⟨c1, by simpa [Array.getElem?_setIfInBounds] using hc1, hr1⟩⟩
        exact ⟨_, _, _, _, rfl, ⟨rfl, B.put _⟩, LR.undef _ _ _, X.1, X.2⟩
      · cases hr0 with
        | ptr _ _ _ _ ad2 _ _ hb2 =>
          obtain rfl := hb2 _ hblk rfl
          refine (copyCheck_used (m id).1 w (by simpa using hcell)).mono ?_
          rintro e w' ⟨rfl, rfl⟩
          exact ⟨_, _, h, m, rfl, ⟨rfl, B⟩, LR.undef _ _ _, R, Ext.refl _ _ _⟩
set_option maxHeartbeats 1000000 in
set_option maxRecDepth 100000 in
theorem bString_nil (b : Nat) (w : World) (c1 : w.drew.cell? ⟨b, 1, none⟩ = some (.slice none 0 0)) :
    Calls Tryd.prog 19 #[.pointer (some ⟨b, 0, none⟩)] w fun e w' => e = .returned (.string ⟨#[]⟩) ∧ w' = w.drew := by
  have hUS : ∀ W, (Builtin.unsafeString_ #[61, 3] 9 #[.pointer none, .int .i64 0]).run Tryd.prog W = .ok (.string .empty) W := fun W => Lib.run_unsafeString_none W _ _ _ none
  have hSD : (Builtin.unsafeSliceData_ #[43] 61 #[.slice none 0 0]).run Tryd.prog w.drew = .ok (.pointer none) w.drew := rfl
  have hmix : Tryd.prog.follows .mixedOrders = true := mixed
  go_enter Tryd.func19, Tryd.ntmps19
  go_wp2
  go_region_o
  all_goals (go_wp2; go_ret; exact ⟨rfl, rfl⟩)
set_option maxHeartbeats 1000000 in
set_option maxRecDepth 100000 in
theorem bString_row (b g cap : Nat) (cur : Array Value) (l : List UInt8) (w : World) (h0 : l ≠ []) (c1 : w.drew.cell? ⟨b, 1, none⟩ = some (.slice (some ⟨g, 0, none⟩) l.length cap)) (hg : w.drew.heap[g]? = some (.cells cur 5 (0, 0))) (hcap : l.length ≤ cap) (hcs : l.length ≤ cur.size) (h63 : l.length ≤ 9223372036854775807)
    (hcell : ∀ (j : Nat) (x : UInt8), l[j]? = some x → w.drew.cell? ((⟨g, 0, none⟩ : Addr).add j) = some (.int .u8 x.toNat)) :
    Calls Tryd.prog 19 #[.pointer (some ⟨b, 0, none⟩)] w fun e w' => e = .returned (.string ⟨l.toArray⟩) ∧ w' = w.drew.freeze ⟨g, 0, none⟩ l.length := by
  have hl0 : 0 < l.length := List.length_pos_iff.2 h0
  have hSD : (Builtin.unsafeSliceData_ #[43] 61 #[.slice (some ⟨g, 0, none⟩) l.length cap]).run Tryd.prog w.drew = .ok (.pointer (some ⟨g, 0, none⟩)) w.drew := Lib.run_unsafeSliceData_row _ _ _ _ _ _ (by omega)
  have hUS : (Builtin.unsafeString_ #[61, 3] 9 #[.pointer (some ⟨g, 0, none⟩), .int .i64 l.length]).run Tryd.prog w.drew = .ok (.string ⟨l.toArray⟩) (w.drew.freeze ⟨g, 0, none⟩ l.length) :=
    Lib.run_unsafeString_row w.drew 61 3 9 5 Tryd.underlying61 (by kernel_rfl) g cur.size (by simp [World.shape?, hg]) l h0 hcs h63 hcell
  have hmix : Tryd.prog.follows .mixedOrders = true := mixed
  go_enter Tryd.func19, Tryd.ntmps19
  go_wp2
  go_region_o
  all_goals (go_wp2; go_ret; exact ⟨rfl, rfl⟩)
theorem freeze_other (w : World) (p : Addr) (n k : Nat) (h : k ≠ p.block) : (w.freeze p n).heap[k]? = w.heap[k]? := by
  unfold World.freeze
  split
  · rfl
  · simp only [Array.getElem?_modify]
    rw [if_neg (fun e => h e.symm)]
theorem freeze_size (w : World) (p : Addr) (n : Nat) : (w.freeze p n).heap.size = w.heap.size := by
  unfold World.freeze
  split
  · rfl
  · simp
theorem hasString : Has Tryd.prog 19 := ⟨_, Tryd.func19, rfl, by kernel_rfl⟩
theorem string_bld (W0 : World) {h0 h : Hp} (hb0 : hpOk h0) {id : Nat} {l : List UInt8} (B : Bld 45 5 h0 h id l) :
    PCalls Tryd.prog W0 19 [.one (.ptr id 0 0 0)] h (fun r h' => r = .sv (.one (pstr l)) ∧ Same h0 h') := by
  obtain ⟨a, buf, ha, B⟩ := B
  refine ⟨hasString, fun w m vs R hl hv => ?_⟩
  match vs, hl with
  | [v0], _ =>
    have hv0 := hv 0 _ v0 rfl rfl
    have hblk := B.blk
    obtain ⟨h00, cur, fr, hg, hcur, hes, hcap, hpl, hfr, hc⟩ := R.live id _ hblk
    obtain rfl := hpl rfl
    cases hv0 with
    | ptr _ _ _ _ ad hid hver hb =>
      obtain rfl := hb _ hblk rfl
      simp only [Nat.zero_mul, Nat.zero_add, List.length_cons, List.length_nil, Nat.add_zero] at hcur hes hc ⊢
      obtain ⟨c1, hc1, hr1⟩ := (hc 0 [a, buf] rfl).2 1 buf rfl
      simp only [Nat.zero_mul, Nat.zero_add] at hc1
      have hcell : w.drew.cell? ⟨(m id).1, 1, none⟩ = some c1 := by
        show w.cell? ⟨(m id).1, 1, none⟩ = some c1
        rw [cell_of_row w _ _ cur 45 _ hg]; exact hc1
      have hold := B.old hb0
      have hdrew : Below w.heap.size w w.drew := Below.drew (Below.refl _ w)
      by_cases hl0 : l = []
      · obtain rfl := B.nilE hl0
        subst hl0
        cases hr1
        refine (bString_nil (m id).1 w hcell).mono ?_
        rintro e w' ⟨rfl, rfl⟩
        have hless : Less h (h0.back h) := ⟨fun j b hj => hold.1 j b hj, Nat.le_refl _⟩
        exact ⟨_, _, h0.back h, m, rfl, ⟨rfl, rfl, hold.2⟩, .val _ rfl, (R.grow hdrew).less hless, (Ext.grow hdrew).trans hless.ext⟩
      · obtain ⟨bid, ver, es, hsl, hbl, hbb, htk, hget⟩ := B.row.open (by rw [List.length_map]; exact List.length_pos_iff.2 hl0)
        simp only [Slot.sv.injEq, SV.one.injEq] at hsl
        subst hsl
        obtain ⟨_, cur2, fr2, hg2, hcur2, hes2, hcap2, hpl2, hfr2, hc2⟩ := R.live bid _ hbb
        obtain rfl := hpl2 rfl
        simp only [Nat.mul_one] at hcur2 hes2 hc2
        cases hr1 with
        | own _ _ _ _ ad2 cc hid2 hver2 hb2 =>
          obtain ⟨q1, q2, q3⟩ := hb2 _ hbb rfl
          obtain ⟨rfl, rfl⟩ := q3 (.inr rfl)
          simp only [Nat.zero_mul, Nat.zero_add, Nat.sub_zero, List.length_map] at hcell q1
          have hne : ∀ j b, h0.blk j = some b → (m j).1 ≠ (m bid).1 := fun j b hj e => by
            have h1 := R.inj j bid b _ (hold.1 j b hj) hbb e
            have h2 := hb0 j b hj
            have h3 := B.lim
            simp only [Hp.new] at hbl
            omega
          refine (bString_row (m id).1 (m bid).1 (m bid).2 cur2 l w hl0 hcell hg2 (by omega) (by omega) (by unfold maxLen at hcap2; omega) fun j x hx => ?_).mono ?_
          · have h1 := hget j (by rw [List.length_map]; exact (List.getElem?_eq_some_iff.1 hx).1)
            rw [List.getElem?_map, hx] at h1
            obtain ⟨u, hu, hru⟩ := (hc2 j (byteCell x) h1).2 0 _ rfl
            cases hru
            rw [addr_add, Nat.zero_add]
            show w.cell? ⟨(m bid).1, j, none⟩ = _
            rw [cell_of_row w _ _ cur2 5 _ hg2]
            simpa using hu
          · rintro e w' ⟨rfl, rfl⟩
            have hsz : (w.drew.freeze ⟨(m bid).1, 0, none⟩ l.length).heap.size = w.heap.size := freeze_size _ _ _
            have hoth : ∀ k, k ≠ (m bid).1 → (w.drew.freeze ⟨(m bid).1, 0, none⟩ l.length).heap[k]? = w.heap[k]? := fun k hk => freeze_other w.drew ⟨(m bid).1, 0, none⟩ l.length k hk
            have hW : Below W0.heap.size W0 (w.drew.freeze ⟨(m bid).1, 0, none⟩ l.length) := Lib.below_freeze (Below.drew R.below) (p := ⟨(m bid).1, 0, none⟩) (R.far bid _ hbb) _
            have X : Ext w h m (w.drew.freeze ⟨(m bid).1, 0, none⟩ l.length) (h0.back h) m :=
              ⟨by rw [hsz]; exact Nat.le_refl _, Nat.le_refl _, fun g hgl hav => ⟨hoth g (fun e => hav bid _ hbb e.symm), fun j b hj => hav j b (hold.1 j b hj)⟩, fun j b hj hb3 => ⟨b, hold.1 j b hb3, Nat.le_refl _, fun _ => ⟨rfl, rfl, rfl⟩⟩⟩
            refine ⟨_, _, h0.back h, m, rfl, ⟨rfl, rfl, hold.2⟩, .val _ rfl, ⟨hW, fun j b hj => Nat.lt_of_lt_of_le (hb0 j b hj) hold.2, fun j b hj => R.far j b (hold.1 j b hj), fun j b hj => (R.live j b (hold.1 j b hj)).ext X (hoth _ (hne j b hj)), fun i j b c hi hj e => R.inj i j b c (hold.1 i b hi) (hold.1 j c hj) e⟩, X⟩
end Go.Pw
