/- Own work: part of the proof of the row YtlghclplgbijjaaDoorRowFilterChecksUpto; no condition of its own. -/
import Derived.Test.YtlghclplgbijjaaDoorGlobB
import Derived.Test.YtlghclplgbijjaaDoorGFacts
namespace Go.Pw
open Go Go.RowKit Go.Proofs
set_option maxRecDepth 100000
set_option linter.unusedSimpArgs false
set_option linter.unusedVariables false
theorem liesAt_var {P : Program} {e : TypeId} {k count : Nat} (hk : P.cellsOf e = k) (hk0 : 0 < k) (hc : 1 ≤ count) : liesAt P P.depth e count 0 e 1 = true := by
  have hd : P.depth = (2 * (P.types.size + Made.depth) + 1) + 1 := rfl
  rw [hd]
  simp only [liesAt, Bool.or_eq_true]
  left
  rw [hd]
  simp [rowAt, hk, sameLayout]
  omega
theorem tbInfo : ∃ j, Tryd.prog.info? 94 = some j ∧ j.size = 2 := by
  have h : szOf Tryd.prog 94 = some 2 := by kernel_rfl
  obtain ⟨j, h1, h2⟩ := Option.map_eq_some_iff.1 h
  exact ⟨j, h1, h2⟩
set_option maxRecDepth 100000 in
theorem copyCheck_used (b : Nat) (w : World) (h0 : w.cell? ⟨b, 0, none⟩ = some (.pointer (some ⟨b, 0, none⟩))) :
    Calls Tryd.prog 115 #[.pointer (some ⟨b, 0, none⟩)] w fun e w' => e = .returned (.tuple #[]) ∧ w' = w := by
  obtain ⟨j, hj, _⟩ := tbInfo
  go_enter Tryd.func115, Tryd.ntmps115
  go_wp2
  rw [Lib.run_neq_ptr_same w _ Tryd.underlying91 hj]
  go_wp2
  go_end0
  exact ⟨rfl, rfl⟩
set_option maxRecDepth 100000 in
theorem copyCheck_fresh (b k : Nat) (w : World) (h0 : w.cell? ⟨b, 0, none⟩ = some (.pointer none)) (hsh : w.shape? b = some (94, k)) (hk : 2 ≤ k) (hfz : w.frozen? ⟨b, 0, none⟩ = false) :
    Calls Tryd.prog 115 #[.pointer (some ⟨b, 0, none⟩)] w fun e w' => e = .returned (.tuple #[]) ∧ w' = w.setCell ⟨b, 0, none⟩ (.pointer (some ⟨b, 0, none⟩)) := by
  obtain ⟨j, hj, hjs⟩ := tbInfo
  have hlies : liesAt Tryd.prog Tryd.prog.depth 94 (k / Tryd.prog.cellsOf 94) 0 94 1 = true :=
    liesAt_var (k := 2) (by kernel_rfl) (by decide) (by rw [show Tryd.prog.cellsOf 94 = 2 by kernel_rfl]; omega)
  go_enter Tryd.func115, Tryd.ntmps115
  go_wp2
  rw [Lib.run_to_unsafe w ⟨b, 0, none⟩ Tryd.underlying91 Tryd.underlying150 hj (by rw [hjs]; decide) hsh (by show 0 < k; omega)]
  simp only [Result.andThen]
  rw [Oper.upon_value]
  go_wp2
  rw [run_callFunc_extern Tryd.func125 (by kernel_rfl) (by kernel_rfl) (by kernel_rfl) (e := Extern.AbiNoEscape.same) (by kernel_rfl), Lib.run_noEscape]
  simp only [Result.andThen]
  rw [Oper.upon_value]
  go_wp2
  rw [Lib.run_from_unsafe w ⟨b, 0, none⟩ Tryd.underlying150 Tryd.underlying91 hj hsh hlies]
  simp only [Result.andThen]
  rw [Oper.upon_value]
  go_wp2
  go_end0
  exact ⟨rfl, rfl⟩
theorem hasCopyCheck : Has Tryd.prog 115 := ⟨_, Tryd.func115, rfl, by kernel_rfl⟩
theorem copyCheck_bld (W0 : World) {h0 h : Hp} {id : Nat} {a buf : PV} {l : List UInt8} (ha : a = .val (.pointer none) ∨ a = .ptr id 0 0 0) (B : BldU 94 5 h0 h id a buf l) :
    PCalls Tryd.prog W0 115 [.one (.ptr id 0 0 0)] h (fun r h' => r = .tup [] ∧ BldU 94 5 h0 h' id (.ptr id 0 0 0) buf l) := by
  refine ⟨hasCopyCheck, fun w m vs R hl hv => ?_⟩
  match vs, hl with
  | [v0], _ =>
    have hv0 := hv 0 _ v0 rfl rfl
    have hblk := B.blk
    obtain ⟨h00, cur, fr, hg, hcur, hes, hcap, hpl, hfr, hc⟩ := R.live id _ hblk
    obtain rfl := hpl rfl
    cases hv0 with
    | ptr _ _ _ _ ad hid hver hb =>
      obtain rfl := hb _ hblk rfl
      simp only [Nat.zero_mul, Nat.zero_add, List.length_cons, List.length_nil, Nat.add_zero] at hcur hes hc ⊢
      obtain ⟨c0, hc0, hr0⟩ := (hc 0 [a, buf] rfl).2 0 a rfl
      obtain ⟨c1, hc1, hr1⟩ := (hc 0 [a, buf] rfl).2 1 buf rfl
      simp only [Nat.zero_mul, Nat.zero_add] at hc0 hc1
      have h2s : 2 ≤ cur.size := by
        have e1 : cur.size = (m id).2 * 2 := hcur
        have e2 : 1 ≤ (m id).2 := hes
        omega
      have hcell : w.cell? ⟨(m id).1, 0, none⟩ = some c0 := by rw [cell_of_row w _ _ cur 94 _ hg]; exact hc0
      have hptr : VR w h m (.ptr id 0 0 0) (.pointer (some ⟨(m id).1, 0, none⟩)) := .ptr _ _ _ _ _ hid hver fun b2 h1 h2 => by
        rw [hblk] at h1
        obtain rfl := Option.some.inj h1
        simp
      rcases ha with rfl | rfl
      · cases hr0
        refine (copyCheck_fresh (m id).1 cur.size w hcell (by simp [World.shape?, hg]) (by omega) (by simp [World.frozen?, hg])).mono ?_
        rintro e w' ⟨rfl, rfl⟩
        rw [setCell_eq_setRow w (m id).1 0 cur 94 (0, 0) _ hg]
        have X := HR.upd R hblk (bldBlk 94 (.ptr id 0 0 0) buf) (m id).1 (m id).2 (w' := w.setRow (m id).1 (cur.setIfInBounds 0 (.pointer (some ⟨(m id).1, 0, none⟩)))) rfl rfl rfl (by simp) (fun k _ hk => setRow_other w _ k _ hk) (.inl rfl) (Nat.le_refl _) (fun _ => ⟨rfl, rfl, rfl, rfl⟩)
          ⟨cur.setIfInBounds 0 (.pointer (some ⟨(m id).1, 0, none⟩)), (0, 0), (show 0 < 2 from Nat.two_pos), setRow_heap w _ cur _ 94 _ hg, by simpa using hcur, by simpa using hes, hcap, fun _ => rfl, .inl (Nat.le_refl _), fun i es hi => by
            match i, hi with
            | 0, hi =>
              obtain rfl := Option.some.inj hi
              refine ⟨rfl, fun j p hj => ?_⟩
              match j, hj with
              | 0, hj => obtain rfl := Option.some.inj hj; exact ⟨_, by rw [Nat.zero_mul, Nat.zero_add, Array.getElem?_setIfInBounds_self_of_lt (by omega)], hptr⟩
              | 1, hj => obtain rfl := Option.some.inj hj; exact ⟨c1, by simpa [Array.getElem?_setIfInBounds] using hc1, hr1⟩⟩
        exact ⟨_, _, _, _, rfl, ⟨rfl, B.put _⟩, LR.undef _ _ _, X.1, X.2⟩
      · cases hr0 with
        | ptr _ _ _ _ ad2 _ _ hb2 =>
          obtain rfl := hb2 _ hblk rfl
          refine (copyCheck_used (m id).1 w (by simpa using hcell)).mono ?_
          rintro e w' ⟨rfl, rfl⟩
          exact ⟨_, _, h, m, rfl, ⟨rfl, B⟩, LR.undef _ _ _, R, Ext.refl _ _ _⟩
set_option maxHeartbeats 1000000 in
set_option maxRecDepth 100000 in
theorem bString_nil (b : Nat) (w : World) (c1 : w.drew.cell? ⟨b, 1, none⟩ = some (.slice none 0 0)) :
    Calls Tryd.prog 71 #[.pointer (some ⟨b, 0, none⟩)] w fun e w' => e = .returned (.string ⟨#[]⟩) ∧ w' = w.drew := by
  have hUS : ∀ W, (Builtin.unsafeString_ #[128, 3] 9 #[.pointer none, .int .i64 0]).run Tryd.prog W = .ok (.string .empty) W := fun W => Lib.run_unsafeString_none W _ _ _ none
  have hSD : (Builtin.unsafeSliceData_ #[92] 128 #[.slice none 0 0]).run Tryd.prog w.drew = .ok (.pointer none) w.drew := rfl
  have hmix : Tryd.prog.follows .mixedOrders = true := mixed
  go_enter Tryd.func71, Tryd.ntmps71
  go_wp2
  go_region_o
  all_goals (go_wp2; go_ret; exact ⟨rfl, rfl⟩)
set_option maxHeartbeats 1000000 in
set_option maxRecDepth 100000 in
theorem bString_row (b g cap : Nat) (cur : Array Value) (l : List UInt8) (w : World) (h0 : l ≠ []) (c1 : w.drew.cell? ⟨b, 1, none⟩ = some (.slice (some ⟨g, 0, none⟩) l.length cap)) (hg : w.drew.heap[g]? = some (.cells cur 5 (0, 0))) (hcap : l.length ≤ cap) (hcs : l.length ≤ cur.size) (h63 : l.length ≤ 9223372036854775807)
    (hcell : ∀ (j : Nat) (x : UInt8), l[j]? = some x → w.drew.cell? ((⟨g, 0, none⟩ : Addr).add j) = some (.int .u8 x.toNat)) :
    Calls Tryd.prog 71 #[.pointer (some ⟨b, 0, none⟩)] w fun e w' => e = .returned (.string ⟨l.toArray⟩) ∧ w' = w.drew.freeze ⟨g, 0, none⟩ l.length := by
  have hl0 : 0 < l.length := List.length_pos_iff.2 h0
  have hSD : (Builtin.unsafeSliceData_ #[92] 128 #[.slice (some ⟨g, 0, none⟩) l.length cap]).run Tryd.prog w.drew = .ok (.pointer (some ⟨g, 0, none⟩)) w.drew := Lib.run_unsafeSliceData_row _ _ _ _ _ _ (by omega)
  have hUS : (Builtin.unsafeString_ #[128, 3] 9 #[.pointer (some ⟨g, 0, none⟩), .int .i64 l.length]).run Tryd.prog w.drew = .ok (.string ⟨l.toArray⟩) (w.drew.freeze ⟨g, 0, none⟩ l.length) :=
    Lib.run_unsafeString_row w.drew 128 3 9 5 Tryd.underlying128 (by kernel_rfl) g cur.size (by simp [World.shape?, hg]) l h0 hcs h63 hcell
  have hmix : Tryd.prog.follows .mixedOrders = true := mixed
  go_enter Tryd.func71, Tryd.ntmps71
  go_wp2
  go_region_o
  all_goals (go_wp2; go_ret; exact ⟨rfl, rfl⟩)
theorem freeze_other (w : World) (p : Addr) (n k : Nat) (h : k ≠ p.block) : (w.freeze p n).heap[k]? = w.heap[k]? := by
  unfold World.freeze
  split
  · rfl
  · simp only [Array.getElem?_modify]
    rw [if_neg (fun e => h e.symm)]
theorem freeze_size (w : World) (p : Addr) (n : Nat) : (w.freeze p n).heap.size = w.heap.size := by
  unfold World.freeze
  split
  · rfl
  · simp
theorem hasString : Has Tryd.prog 71 := ⟨_, Tryd.func71, rfl, by kernel_rfl⟩
theorem string_bld (W0 : World) {h0 h : Hp} (hb0 : hpOk h0) {id : Nat} {l : List UInt8} (B : Bld 94 5 h0 h id l) :
    PCalls Tryd.prog W0 71 [.one (.ptr id 0 0 0)] h (fun r h' => r = .sv (.one (pstr l)) ∧ Same h0 h') := by
  obtain ⟨a, buf, ha, B⟩ := B
  refine ⟨hasString, fun w m vs R hl hv => ?_⟩
  match vs, hl with
  | [v0], _ =>
    have hv0 := hv 0 _ v0 rfl rfl
    have hblk := B.blk
    obtain ⟨h00, cur, fr, hg, hcur, hes, hcap, hpl, hfr, hc⟩ := R.live id _ hblk
    obtain rfl := hpl rfl
    cases hv0 with
    | ptr _ _ _ _ ad hid hver hb =>
      obtain rfl := hb _ hblk rfl
      simp only [Nat.zero_mul, Nat.zero_add, List.length_cons, List.length_nil, Nat.add_zero] at hcur hes hc ⊢
      obtain ⟨c1, hc1, hr1⟩ := (hc 0 [a, buf] rfl).2 1 buf rfl
      simp only [Nat.zero_mul, Nat.zero_add] at hc1
      have hcell : w.drew.cell? ⟨(m id).1, 1, none⟩ = some c1 := by
        show w.cell? ⟨(m id).1, 1, none⟩ = some c1
        rw [cell_of_row w _ _ cur 94 _ hg]; exact hc1
      have hold := B.old hb0
      have hdrew : Below w.heap.size w w.drew := Below.drew (Below.refl _ w)
      by_cases hl0 : l = []
      · obtain rfl := B.nilE hl0
        subst hl0
        cases hr1
        refine (bString_nil (m id).1 w hcell).mono ?_
        rintro e w' ⟨rfl, rfl⟩
        have hless : Less h (h0.back h) := ⟨fun j b hj => hold.1 j b hj, Nat.le_refl _⟩
        exact ⟨_, _, h0.back h, m, rfl, ⟨rfl, rfl, hold.2⟩, .val _ rfl, (R.grow hdrew).less hless, (Ext.grow hdrew).trans hless.ext⟩
      · obtain ⟨bid, ver, es, hsl, hbl, hbb, htk, hget⟩ := B.row.open (by rw [List.length_map]; exact List.length_pos_iff.2 hl0)
        simp only [Slot.sv.injEq, SV.one.injEq] at hsl
        subst hsl
        obtain ⟨_, cur2, fr2, hg2, hcur2, hes2, hcap2, hpl2, hfr2, hc2⟩ := R.live bid _ hbb
        obtain rfl := hpl2 rfl
        simp only [Nat.mul_one] at hcur2 hes2 hc2
        cases hr1 with
        | own _ _ _ _ ad2 cc hid2 hver2 hb2 =>
          obtain ⟨q1, q2, q3⟩ := hb2 _ hbb rfl
          obtain ⟨rfl, rfl⟩ := q3 (.inr rfl)
          simp only [Nat.zero_mul, Nat.zero_add, Nat.sub_zero, List.length_map] at hcell q1
          have hne : ∀ j b, h0.blk j = some b → (m j).1 ≠ (m bid).1 := fun j b hj e => by
            have h1 := R.inj j bid b _ (hold.1 j b hj) hbb e
            have h2 := hb0 j b hj
            have h3 := B.lim
            simp only [Hp.new] at hbl
            omega
          refine (bString_row (m id).1 (m bid).1 (m bid).2 cur2 l w hl0 hcell hg2 (by omega) (by omega) (by unfold maxLen at hcap2; omega) fun j x hx => ?_).mono ?_
          · have h1 := hget j (by rw [List.length_map]; exact (List.getElem?_eq_some_iff.1 hx).1)
            rw [List.getElem?_map, hx] at h1
            obtain ⟨u, hu, hru⟩ := (hc2 j (byteCell x) h1).2 0 _ rfl
            cases hru
            rw [addr_add, Nat.zero_add]
            show w.cell? ⟨(m bid).1, j, none⟩ = _
            rw [cell_of_row w _ _ cur2 5 _ hg2]
            simpa using hu
          · rintro e w' ⟨rfl, rfl⟩
            have hsz : (w.drew.freeze ⟨(m bid).1, 0, none⟩ l.length).heap.size = w.heap.size := freeze_size _ _ _
            have hoth : ∀ k, k ≠ (m bid).1 → (w.drew.freeze ⟨(m bid).1, 0, none⟩ l.length).heap[k]? = w.heap[k]? := fun k hk => freeze_other w.drew ⟨(m bid).1, 0, none⟩ l.length k hk
            have hW : Below W0.heap.size W0 (w.drew.freeze ⟨(m bid).1, 0, none⟩ l.length) := ⟨Lib.below_freeze (Below.drew R.below).toBelow (p := ⟨(m bid).1, 0, none⟩) (R.far bid _ hbb) _, fun d => Nat.le_trans ((Below.drew R.below).drawn d) (by unfold World.freeze; split <;> exact Nat.le_refl _)⟩
            have X : Ext w h m (w.drew.freeze ⟨(m bid).1, 0, none⟩ l.length) (h0.back h) m :=
              ⟨by rw [hsz]; exact Nat.le_refl _, Nat.le_refl _, fun g hgl hav => ⟨hoth g (fun e => hav bid _ hbb e.symm), fun j b hj => hav j b (hold.1 j b hj)⟩, fun j b hj hb3 => ⟨b, hold.1 j b hb3, Nat.le_refl _, fun _ => ⟨rfl, rfl, rfl⟩⟩⟩
            refine ⟨_, _, h0.back h, m, rfl, ⟨rfl, rfl, hold.2⟩, .val _ rfl, ⟨hW, fun j b hj => Nat.lt_of_lt_of_le (hb0 j b hj) hold.2, fun j b hj => R.far j b (hold.1 j b hj), fun j b hj => (R.live j b (hold.1 j b hj)).ext X (hoth _ (hne j b hj)), fun i j b c hi hj e => R.inj i j b c (hold.1 i b hi) (hold.1 j c hj) e⟩, X⟩
theorem Bld.keeps {tb t8 : TypeId} {h0 hp hq : Hp} {id : Nat} {l : List UInt8} (B : Bld tb t8 h0 hp id l) (k : Keeps hp hq) : Bld tb t8 h0 hq id l := by
  obtain ⟨a, buf, ha, B⟩ := B
  exact ⟨a, buf, ha, ⟨B.lim, B.keeps.trans k, B.row.keeps k, B.nilE⟩⟩
theorem str_ofB {P : Program} {t ts t8 : TypeId} {b : Bool} {l : List UInt8} {hp : Hp} {N : Slot → Hp → Prop} (hs : P.underlying ts = some .string) (ht : P.underlying t = some (.slice t8)) (h8 : P.underlying t8 = some (.int .u8)) (H : N (.sv (.one (pstr l))) hp) :
    popConvert P t ts (.sv (.one (.ro b 1 (l.map byteCell)))) hp N := by
  unfold popConvert
  simp only [hs, ht]
  exact ⟨h8, l, ⟨1, rfl⟩, H⟩
theorem u8_mod (n : Int) : IntKind.u8.wrap n = ((UInt8.ofNat (n % 256).toNat).toNat : Int) := by
  rw [UInt8.toNat_ofNat']
  simp [IntKind.wrap, IntKind.bits, IntKind.signed]
  omega
theorem esc_take {p : UInt8 → Bool} {s : List UInt8} {i : Nat} {c : UInt8} (h : s[i]? = some c) : escT p (s.take (i + 1)) = escT p (s.take i) ++ (if p c then [92, c] else [c]) := by
  rw [take_at h, escT_app, escT, escT, List.append_nil]
def someOf (w : Bool) : List UInt8 := [92, 42, 63, 91, 93, 123, 125] ++ (if w then [44] else [])
theorem someOf_has (w : Bool) (c : UInt8) : (someOf w).contains c = escB w c := by
  unfold someOf escB
  cases w with
  | false => simp
  | true =>
    by_cases h : c = 44
    · subst h; rfl
    · have h2 : (c == 44) = false := by simpa using h
      simp [h, h2]
theorem esc_congr {p q : UInt8 → Bool} (h : ∀ c, p c = q c) (t : List UInt8) : escT p t = escT q t := by rw [show p = q from funext h]
def setT (neg : Bool) (r : List (Int × Int)) : List UInt8 := [91] ++ ((if neg then [94] else []) ++ (r.map showR).flatten)
theorem setT_step {neg : Bool} {r : List (Int × Int)} {i : Nat} {x : Int × Int} (h : r[i]? = some x) : setT neg (r.take (i + 1)) = setT neg (r.take i) ++ showR x := by
  unfold setT
  rw [take_at h]
  simp
theorem setT_end (neg : Bool) (r : List (Int × Int)) : setT neg r ++ [93] = showS neg r := by unfold setT showS; simp
theorem setT_len (neg : Bool) (r : List (Int × Int)) : (setT neg r).length ≤ 2 + 5 * r.length := by
  have := showS_len neg r
  rw [← setT_end, List.length_append] at this
  simp only [List.length_cons, List.length_nil] at this
  omega
theorem showR_1 {x : Int × Int} (h1 : x.2 > x.1 + 1) : showR x = bnd x.1 ++ [45] ++ bnd x.2 := by
  unfold showR
  rw [if_pos h1, if_pos (by omega), List.append_assoc]
theorem showR_2 {x : Int × Int} (h1 : ¬ x.2 > x.1 + 1) (h2 : x.2 > x.1) : showR x = bnd x.1 ++ bnd x.2 := by
  unfold showR
  rw [if_neg h1, if_pos h2, List.nil_append]
theorem showR_3 {x : Int × Int} (h1 : ¬ x.2 > x.1 + 1) (h2 : ¬ x.2 > x.1) : showR x = bnd x.1 := by
  unfold showR
  rw [if_neg h1, if_neg h2, List.append_nil, List.append_nil]
theorem nm93 : (Tryd.f93.name == "runtime.NumGoroutine") = false := by kernel_rfl
theorem writeString_bld (W0 : World) (h0 : Hp) (id : Nat) (l x : List UInt8) (hb0 : hpOk h0) (hlim : l.length + x.length ≤ 1099511627776) (h : Hp) (B : Bld 94 5 h0 h id l) :
  PCalls Tryd.prog W0 93 [.one (.ptr id 0 0 0), .one (pstr x)] h (fun r h' => r = .tup [.one (pint x.length), .one (.val .nilIface)] ∧ Bld 94 5 h0 h' id (l ++ x)) := by
 obtain ⟨a, buf, ha, B⟩ := B
 refine pcalls2 (n := 19) Tryd.func93 rfl nm93 rfl fun hb => ?_
 refine pwp_then fun N1 hN1 => ?_
 refine pwp_reg fun R2 hR2 => ?_
 refine pops_mv (.inr rfl) rfl (by simp only [St.eval, constSlot] <;> rfl) ?_
 refine pops_mv (.inr rfl) rfl (by simp only [St.eval, constSlot] <;> rfl) ?_
 refine pops_done (hR2 _ ?_)
 clear hR2 R2
 try simp only [thenK]
 refine hN1 _ ?_
 clear hN1 N1
 refine pwp_then fun N3 hN3 => ?_
 refine pwp_reg fun R4 hR4 => ?_
 refine pops_mv (.inl rfl) rfl (by simp only [St.eval, upd_at, Nat.reduceEqDiff, if_true, if_false] <;> rfl) ?_
 refine pops_to rfl fun M hM => ?_
 simp only [pop, St.eval, constSlot, upd_at, Nat.reduceEqDiff, if_true, if_false, popCall, List.map_nil, svs, List.mapM_cons, List.mapM_nil, Option.bind_eq_bind, Option.bind_some, Option.pure_def, List.append_nil]
 refine (copyCheck_bld W0 ha B).mono ?_
 rintro _ h1 ⟨rfl, B1⟩
 refine hM _ _ ?_
 clear hM M
 refine pops_done (hR4 _ ?_)
 clear hR4 R4
 try simp only [thenK]
 refine hN3 _ ?_
 clear hN3 N3
 refine pwp_then fun N5 hN5 => ?_
 refine pwp_reg fun R6 hR6 => ?_
 refine pops_mv (.inl rfl) rfl (by simp only [St.eval, upd_at, Nat.reduceEqDiff, if_true, if_false] <;> rfl) ?_
 refine pops_mv (.inl rfl) rfl (by simp only [St.eval, upd_at, Nat.reduceEqDiff, if_true, if_false] <;> rfl) ?_
 refine pops_to rfl fun M hM => ?_
 simp only [pop, St.eval, upd_at, Nat.reduceEqDiff, if_true, if_false, eq_self]
 refine hM _ _ ?_
 clear hM M
 refine pops_to rfl fun M hM => ?_
 simp only [pop, St.eval, upd_at, Nat.reduceEqDiff, if_true, if_false, popFieldAddr, fieldOf, List.getElem?_toArray, List.getElem?_cons_zero, List.getElem?_cons_succ, Tryd.underlying94, sz92]
 refine ⟨⟨_, rfl⟩, hM _ _ ?_⟩
 clear hM M
 refine pops_to rfl fun M hM => ?_
 simp only [pop, St.eval, upd_at, Nat.reduceEqDiff, if_true, if_false, eq_self]
 refine bld_load Tryd.underlying92 rfl B1 (hM _ _ ?_)
 clear hM M
 refine pops_mv (.inl rfl) rfl (by simp only [St.eval, upd_at, Nat.reduceEqDiff, if_true, if_false] <;> rfl) ?_
 refine pops_to rfl fun M hM => ?_
 simp only [pop, St.eval, upd_at, Nat.reduceEqDiff, if_true, if_false, popCall, List.map_cons, List.map_nil, popBuiltin, eq_self]
 refine ⟨Tryd.underlying9, ?_⟩
 refine bld_appS hb0 Tryd.underlying92 sz5 by5 ze5 rfl B1 ⟨by omega, by omega⟩ fun buf2 hq HS => hM _ _ ?_
 clear hM M
 refine pops_to rfl fun M hM => ?_
 simp only [pop, St.eval, upd_at, Nat.reduceEqDiff, if_true, if_false, eq_self]
 refine hM _ _ ?_
 clear hM M
 refine pops_to rfl fun M hM => ?_
 simp only [pop, St.eval, upd_at, Nat.reduceEqDiff, if_true, if_false, popFieldAddr, fieldOf, List.getElem?_toArray, List.getElem?_cons_zero, List.getElem?_cons_succ, Tryd.underlying94, sz92]
 refine ⟨⟨_, rfl⟩, hM _ _ ?_⟩
 clear hM M
 refine pops_no fun M hM => ?_
 simp only [pop, St.eval, upd_at, Nat.reduceEqDiff, if_true, if_false, eq_self]
 refine HS _ 92 sz92 fun hq2 B2 => hM _ _ ?_
 clear hM M
 refine pops_done (hR6 _ ?_)
 clear hR6 R6
 try simp only [thenK]
 refine hN5 _ ?_
 clear hN5 N5
 refine pwp_then fun N7 hN7 => ?_
 refine pwp_reg fun R8 hR8 => ?_
 refine pops_mv (.inl rfl) rfl (by simp only [St.eval, upd_at, Nat.reduceEqDiff, if_true, if_false] <;> rfl) ?_
 refine pops_to rfl fun M hM => ?_
 simp only [pop, St.eval, upd_at, Nat.reduceEqDiff, if_true, if_false, popCall, List.map_cons, List.map_nil, popBuiltin, popLen, Tryd.underlying9, eq_self, str_size]
 refine hM _ _ ?_
 clear hM M
 refine pops_mv (.inr rfl) rfl (by simp only [St.eval, upd_at, Nat.reduceEqDiff, if_true, if_false] <;> rfl) ?_
 refine pops_mv (.inr rfl) rfl (by simp only [St.eval, constSlot] <;> rfl) ?_
 refine pops_done (hR8 _ ?_)
 clear hR8 R8
 try simp only [thenK]
 refine hN7 _ ?_
 clear hN7 N7
 refine pwp_ret ?_
 simp only [bodyK]
 exact ⟨_, rfl, _, _, .refl _ _ _, rfl, _, _, .inr rfl, B2⟩
theorem nm92 : (Tryd.f92.name == "runtime.NumGoroutine") = false := by kernel_rfl
theorem writeByte_bld (W0 : World) (h0 : Hp) (id : Nat) (l : List UInt8) (c : UInt8) (hb0 : hpOk h0) (hlim : l.length + 1 ≤ 1099511627776) (h : Hp) (B : Bld 94 5 h0 h id l) :
  PCalls Tryd.prog W0 92 [.one (.ptr id 0 0 0), .one (.val (.int .u8 c.toNat))] h (fun r h' => r = .sv (.one (.val .nilIface)) ∧ Bld 94 5 h0 h' id (l ++ [c])) := by
 obtain ⟨a, buf, ha, B⟩ := B
 refine pcalls2 (n := 17) Tryd.func92 rfl nm92 rfl fun hb => ?_
 refine pwp_then fun N1 hN1 => ?_
 refine pwp_reg fun R2 hR2 => ?_
 refine pops_mv (.inr rfl) rfl (by simp only [St.eval, constSlot] <;> rfl) ?_
 refine pops_done (hR2 _ ?_)
 clear hR2 R2
 try simp only [thenK]
 refine hN1 _ ?_
 clear hN1 N1
 refine pwp_then fun N3 hN3 => ?_
 refine pwp_reg fun R4 hR4 => ?_
 refine pops_mv (.inl rfl) rfl (by simp only [St.eval, upd_at, Nat.reduceEqDiff, if_true, if_false] <;> rfl) ?_
 refine pops_to rfl fun M hM => ?_
 simp only [pop, St.eval, constSlot, upd_at, Nat.reduceEqDiff, if_true, if_false, popCall, List.map_nil, svs, List.mapM_cons, List.mapM_nil, Option.bind_eq_bind, Option.bind_some, Option.pure_def, List.append_nil]
 refine (copyCheck_bld W0 ha B).mono ?_
 rintro _ h1 ⟨rfl, B1⟩
 refine hM _ _ ?_
 clear hM M
 refine pops_done (hR4 _ ?_)
 clear hR4 R4
 try simp only [thenK]
 refine hN3 _ ?_
 clear hN3 N3
 refine pwp_then fun N5 hN5 => ?_
 refine pwp_reg fun R6 hR6 => ?_
 refine pops_mv (.inl rfl) rfl (by simp only [St.eval, upd_at, Nat.reduceEqDiff, if_true, if_false] <;> rfl) ?_
 refine pops_mv (.inl rfl) rfl (by simp only [St.eval, upd_at, Nat.reduceEqDiff, if_true, if_false] <;> rfl) ?_
 refine pops_to rfl fun M hM => ?_
 simp only [pop, St.eval, upd_at, Nat.reduceEqDiff, if_true, if_false, eq_self]
 refine hM _ _ ?_
 clear hM M
 refine pops_to rfl fun M hM => ?_
 simp only [pop, St.eval, upd_at, Nat.reduceEqDiff, if_true, if_false, popFieldAddr, fieldOf, List.getElem?_toArray, List.getElem?_cons_zero, List.getElem?_cons_succ, Tryd.underlying94, sz92]
 refine ⟨⟨_, rfl⟩, hM _ _ ?_⟩
 clear hM M
 refine pops_to rfl fun M hM => ?_
 simp only [pop, St.eval, upd_at, Nat.reduceEqDiff, if_true, if_false, eq_self]
 refine bld_load Tryd.underlying92 rfl B1 (hM _ _ ?_)
 clear hM M
 refine pops_mv (.inl rfl) rfl (by simp only [St.eval, upd_at, Nat.reduceEqDiff, if_true, if_false] <;> rfl) ?_
 refine pops_to rfl fun M hM => ?_
 simp only [pop, St.eval, constSlot, upd_at, Nat.reduceEqDiff, if_true, if_false, popBuildSlice, slotCells, List.map_cons, List.map_nil, List.mapM_cons, List.mapM_nil, Option.bind_eq_bind, Option.bind_some, Option.pure_def, Tryd.underlying92, sz5, ze5, eq_self]
 refine ⟨by decide, by decide, rfl, rfl, by simp, by decide, rfl, hM _ _ ?_⟩
 clear hM M
 refine pops_to rfl fun M hM => ?_
 simp only [pop, St.eval, upd_at, Nat.reduceEqDiff, if_true, if_false, popCall, List.map_cons, List.map_nil, popBuiltin, eq_self]
 refine bld_app (x := [c]) hb0 Tryd.underlying92 sz5 by5 ze5 rfl B1 (by simp) rfl (.inr rfl) ⟨by simp only [List.length_cons, List.length_nil]; omega, by simp only [List.length_cons, List.length_nil]; omega⟩ fun buf2 hq HS => hM _ _ ?_
 clear hM M
 refine pops_to rfl fun M hM => ?_
 simp only [pop, St.eval, upd_at, Nat.reduceEqDiff, if_true, if_false, eq_self]
 refine hM _ _ ?_
 clear hM M
 refine pops_to rfl fun M hM => ?_
 simp only [pop, St.eval, upd_at, Nat.reduceEqDiff, if_true, if_false, popFieldAddr, fieldOf, List.getElem?_toArray, List.getElem?_cons_zero, List.getElem?_cons_succ, Tryd.underlying94, sz92]
 refine ⟨⟨_, rfl⟩, hM _ _ ?_⟩
 clear hM M
 refine pops_no fun M hM => ?_
 simp only [pop, St.eval, upd_at, Nat.reduceEqDiff, if_true, if_false, eq_self]
 refine HS _ 92 sz92 fun hq2 B2 => hM _ _ ?_
 clear hM M
 refine pops_done (hR6 _ ?_)
 clear hR6 R6
 try simp only [thenK]
 refine hN5 _ ?_
 clear hN5 N5
 refine pwp_then fun N7 hN7 => ?_
 refine pwp_reg fun R8 hR8 => ?_
 refine pops_mv (.inr rfl) rfl (by simp only [St.eval, constSlot] <;> rfl) ?_
 refine pops_done (hR8 _ ?_)
 clear hR8 R8
 try simp only [thenK]
 refine hN7 _ ?_
 clear hN7 N7
 refine pwp_ret ?_
 simp only [bodyK]
 exact ⟨_, rfl, _, _, .refl _ _ _, rfl, _, _, .inr rfl, B2⟩
theorem nm91 : (Tryd.f91.name == "runtime.NumGoroutine") = false := by kernel_rfl
theorem escape_bld (W0 : World) (h0 : Hp) (id : Nat) (l s q : List UInt8) (hb0 : hpOk h0) (hlim : l.length + 2 * s.length ≤ 1099511627776) (h : Hp) (B : Bld 94 5 h0 h id l) :
  PCalls Tryd.prog W0 91 [.one (.ptr id 0 0 0), .one (pstr s), .one (pstr q)] h (fun r h' => r = .tup [] ∧ Bld 94 5 h0 h' id (l ++ escT q.contains s)) := by
 refine pcalls3 (n := 25) Tryd.func91 rfl nm91 rfl fun hb => ?_
 refine pwp_then fun N1 hN1 => ?_
 refine pwp_reg fun R2 hR2 => ?_
 refine pops_mv (.inl rfl) rfl (by simp only [St.eval, upd_at, Nat.reduceEqDiff, if_true, if_false] <;> rfl) ?_
 refine pops_to rfl fun M hM => ?_
 simp only [pop, St.eval, upd_at, Nat.reduceEqDiff, if_true, if_false, popCall, List.map_cons, List.map_nil, popBuiltin, popLen, Tryd.underlying9, eq_self, str_size]
 refine hM _ _ ?_
 clear hM M
 refine pops_mv (.inl rfl) rfl (by simp only [St.eval, constSlot] <;> rfl) ?_
 refine pops_done (hR2 _ ?_)
 clear hR2 R2
 try simp only [thenK]
 refine hN1 _ ?_
 clear hN1 N1
 refine pwp_block ?_
 refine pwp_loop (fun k σ => ∃ (i : Nat), (k = s.length - i) ∧ (i ≤ s.length) ∧ (Bld 94 5 h0 σ.hp id (l ++ escT q.contains (s.take i))) ∧ (σ.env 0 = .sv (.one (.ptr id 0 0 0))) ∧ (σ.env 1 = .sv (.one (pstr s))) ∧ (σ.env 2 = .sv (.one (pstr q))) ∧ (σ.env 8 = .sv (.one (pint (s.length : Nat)))) ∧ (σ.env 9 = .sv (.one (pint (i : Nat))))) _ ⟨_, .refl _ _, 0, rfl, ?_⟩ ?_
 · exact ⟨Nat.zero_le _, by rw [List.take_zero, escT, List.append_nil]; exact B.keeps (Same.keeps (Same.refl _)), by simp only [upd_at, Nat.reduceEqDiff, if_true, if_false], by simp only [upd_at, Nat.reduceEqDiff, if_true, if_false], by simp only [upd_at, Nat.reduceEqDiff, if_true, if_false], by first | rfl | (simp only [upd_at, Nat.reduceEqDiff, if_true, if_false]; rfl), by first | rfl | (simp only [upd_at, Nat.reduceEqDiff, if_true, if_false]; rfl)⟩
 ·rintro k ⟨e, hp0⟩ ⟨i, hk0, hx0_0, sl0, e0_0, e0_1, e0_2, e0_8, e0_9⟩
  simp only at sl0 e0_0 e0_1 e0_2 e0_8 e0_9
  have hB := sl0
  refine pwp_hpok fun hok0 => ?_
  simp only at hok0
  refine pwp_then fun N3 hN3 => ?_
  refine pwp_reg fun R4 hR4 => ?_
  refine pops_to rfl fun M hM => ?_
  simp only [pop, St.eval, popBin, binK, intK, eq_self, true_and, e0_8, e0_9]
  refine hM _ _ ?_
  clear hM M
  refine pops_done (hR4 _ ?_)
  clear hR4 R4
  try simp only [thenK]
  refine hN3 _ ?_
  clear hN3 N3
  refine pwp_then fun N5 hN5 => ?_
  refine pwp_cond (by simp only [St.eval, upd_at, if_true] <;> rfl) (fun c10 => ?_) (fun c10 => ?_)
  ·skip
   have hi : i < s.length := by have := of_decide_eq_true c10; omega
   obtain ⟨c, hx⟩ : ∃ c, s[i]? = some c := ⟨_, List.getElem?_eq_getElem hi⟩
   have hst := esc_take (p := q.contains) hx
   have hel := escT_len q.contains (s.take i)
   rw [List.length_take] at hel
   refine pwp_skip ?_
   try simp only [thenK]
   refine hN5 _ ?_
   clear hN5 N5
   refine pwp_then fun N6 hN6 => ?_
   refine pwp_block ?_
   refine pwp_then fun N7 hN7 => ?_
   refine pwp_reg fun R8 hR8 => ?_
   refine pops_mv (.inl rfl) rfl (by simp only [St.eval, upd_at, Nat.reduceEqDiff, if_false, e0_9] <;> rfl) ?_
   refine pops_mv (.inr rfl) rfl (by simp only [St.eval, upd_at, Nat.reduceEqDiff, if_true, if_false] <;> rfl) ?_
   refine pops_done (hR8 _ ?_)
   clear hR8 R8
   try simp only [thenK]
   refine hN7 _ ?_
   clear hN7 N7
   refine pwp_then fun N9 hN9 => ?_
   refine pwp_then fun N10 hN10 => ?_
   refine pwp_reg fun R11 hR11 => ?_
   refine pops_mv (.inl rfl) rfl (by simp only [St.eval, upd_at, Nat.reduceEqDiff, if_false, e0_2] <;> rfl) ?_
   refine pops_mv (.inl rfl) rfl (by simp only [St.eval, upd_at, Nat.reduceEqDiff, if_false, e0_1] <;> rfl) ?_
   refine pops_mv (.inl rfl) rfl (by simp only [St.eval, upd_at, Nat.reduceEqDiff, if_true, if_false] <;> rfl) ?_
   refine pops_to rfl fun M hM => ?_
   simp only [pop, St.eval, upd_at, Nat.reduceEqDiff, if_true, if_false, popIndex, Tryd.underlying9, eq_self, str_get, hx, Int.toNat_natCast]
   refine ⟨Int.natCast_nonneg _, hM _ _ ?_⟩
   clear hM M
   refine pops_to rfl fun M hM => ?_
   simp only [pop, St.eval, constSlot, upd_at, Nat.reduceEqDiff, if_true, if_false, popCall, List.map_nil, svs, List.mapM_cons, List.mapM_nil, Option.bind_eq_bind, Option.bind_some, Option.pure_def, List.append_nil]
   refine PFun.use (hasByte_fun W0 q c) fun h1 s1 => hM _ _ ?_
   replace s1 := Same.trans (Same.refl _) s1
   clear hM M
   refine pops_done (hR11 _ ?_)
   clear hR11 R11
   try simp only [thenK]
   refine hN10 _ ?_
   clear hN10 N10
   refine pwp_cond (by simp only [St.eval, upd_at, Nat.reduceEqDiff, if_true, if_false] <;> rfl) (fun c16 => ?_) (fun c16 => ?_)
   ·skip
    rw [if_pos c16] at hst
    refine pwp_reg fun R12 hR12 => ?_
    refine pops_mv (.inl rfl) rfl (by simp only [St.eval, upd_at, Nat.reduceEqDiff, if_false, e0_0] <;> rfl) ?_
    refine pops_to rfl fun M hM => ?_
    simp only [pop, St.eval, constSlot, upd_at, Nat.reduceEqDiff, if_true, if_false, popCall, List.map_nil, svs, List.mapM_cons, List.mapM_nil, Option.bind_eq_bind, Option.bind_some, Option.pure_def, List.append_nil]
    refine (writeByte_bld W0 h0 id _ 92 hb0 (by rw [List.length_append]; omega) _ (hB.keeps (Same.keeps s1))).mono ?_
    rintro _ h9 ⟨rfl, hB9⟩
    refine hM _ _ ?_
    clear hM M
    refine pops_done (hR12 _ ?_)
    clear hR12 R12
    try simp only [thenK]
    refine hN9 _ ?_
    clear hN9 N9
    refine pwp_reg fun R13 hR13 => ?_
    refine pops_mv (.inl rfl) rfl (by simp only [St.eval, upd_at, Nat.reduceEqDiff, if_false, e0_0] <;> rfl) ?_
    refine pops_mv (.inl rfl) rfl (by simp only [St.eval, upd_at, Nat.reduceEqDiff, if_false, e0_1] <;> rfl) ?_
    refine pops_mv (.inl rfl) rfl (by simp only [St.eval, upd_at, Nat.reduceEqDiff, if_true, if_false] <;> rfl) ?_
    refine pops_to rfl fun M hM => ?_
    simp only [pop, St.eval, upd_at, Nat.reduceEqDiff, if_true, if_false, popIndex, Tryd.underlying9, eq_self, str_get, hx, Int.toNat_natCast]
    refine ⟨Int.natCast_nonneg _, hM _ _ ?_⟩
    clear hM M
    refine pops_to rfl fun M hM => ?_
    simp only [pop, St.eval, constSlot, upd_at, Nat.reduceEqDiff, if_true, if_false, popCall, List.map_nil, svs, List.mapM_cons, List.mapM_nil, Option.bind_eq_bind, Option.bind_some, Option.pure_def, List.append_nil]
    first
      | refine (writeByte_bld W0 h0 id _ c hb0 (by rw [List.length_append, List.length_append]; simp only [List.length_cons, List.length_nil]; omega) _ (hB9.keeps (Same.keeps (Same.refl _)))).mono ?_
      | refine (writeByte_bld W0 h0 id _ c hb0 (by rw [List.length_append]; omega) _ (hB.keeps (Same.keeps (Same.refl _)))).mono ?_
    rintro _ h8 ⟨rfl, hB8⟩
    refine hM _ _ ?_
    clear hM M
    refine pops_done (hR13 _ ?_)
    clear hR13 R13
    try simp only [blockK, thenK]
    try simp only [thenK, scopeK]
    refine hN6 _ ?_
    clear hN6 N6
    refine pwp_reg fun R14 hR14 => ?_
    refine pops_to rfl fun M hM => ?_
    simp only [pop, St.eval, constSlot, upd_at, Nat.reduceEqDiff, if_false, popBin, binK, intK, eq_self, true_and, e0_9]
    refine hM _ _ ?_
    clear hM M
    refine pops_mv (.inl rfl) rfl (by simp only [St.eval, upd_at, Nat.reduceEqDiff, if_true, if_false] <;> rfl) ?_
    refine pops_done (hR14 _ ?_)
    clear hR14 R14
    try simp only [thenK]
    exact ⟨_, by omega, _, .refl _ _, i + 1, rfl, by omega, by rw [hst]; simpa using hB8.keeps (Same.keeps (Same.refl _)), by simp only [upd_at, Nat.reduceEqDiff, if_false, e0_0], by simp only [upd_at, Nat.reduceEqDiff, if_false, e0_1], by simp only [upd_at, Nat.reduceEqDiff, if_false, e0_2], by simp only [upd_at, Nat.reduceEqDiff, if_false, e0_8], by simp only [upd_at, Nat.reduceEqDiff, if_true, if_false, e0_9]; rw [wrap_succ (by omega)]⟩
   ·skip
    rw [if_neg (by rw [c16]; decide)] at hst
    refine pwp_skip ?_
    try simp only [thenK]
    refine hN9 _ ?_
    clear hN9 N9
    refine pwp_reg fun R15 hR15 => ?_
    refine pops_mv (.inl rfl) rfl (by simp only [St.eval, upd_at, Nat.reduceEqDiff, if_false, e0_0] <;> rfl) ?_
    refine pops_mv (.inl rfl) rfl (by simp only [St.eval, upd_at, Nat.reduceEqDiff, if_false, e0_1] <;> rfl) ?_
    refine pops_mv (.inl rfl) rfl (by simp only [St.eval, upd_at, Nat.reduceEqDiff, if_true, if_false] <;> rfl) ?_
    refine pops_to rfl fun M hM => ?_
    simp only [pop, St.eval, upd_at, Nat.reduceEqDiff, if_true, if_false, popIndex, Tryd.underlying9, eq_self, str_get, hx, Int.toNat_natCast]
    refine ⟨Int.natCast_nonneg _, hM _ _ ?_⟩
    clear hM M
    refine pops_to rfl fun M hM => ?_
    simp only [pop, St.eval, constSlot, upd_at, Nat.reduceEqDiff, if_true, if_false, popCall, List.map_nil, svs, List.mapM_cons, List.mapM_nil, Option.bind_eq_bind, Option.bind_some, Option.pure_def, List.append_nil]
    first
      | refine (writeByte_bld W0 h0 id _ c hb0 (by rw [List.length_append, List.length_append]; simp only [List.length_cons, List.length_nil]; omega) _ (hB9.keeps (Same.keeps s1))).mono ?_
      | refine (writeByte_bld W0 h0 id _ c hb0 (by rw [List.length_append]; omega) _ (hB.keeps (Same.keeps s1))).mono ?_
    rintro _ h8 ⟨rfl, hB8⟩
    refine hM _ _ ?_
    clear hM M
    refine pops_done (hR15 _ ?_)
    clear hR15 R15
    try simp only [blockK, thenK]
    try simp only [thenK, scopeK]
    refine hN6 _ ?_
    clear hN6 N6
    refine pwp_reg fun R16 hR16 => ?_
    refine pops_to rfl fun M hM => ?_
    simp only [pop, St.eval, constSlot, upd_at, Nat.reduceEqDiff, if_false, popBin, binK, intK, eq_self, true_and, e0_9]
    refine hM _ _ ?_
    clear hM M
    refine pops_mv (.inl rfl) rfl (by simp only [St.eval, upd_at, Nat.reduceEqDiff, if_true, if_false] <;> rfl) ?_
    refine pops_done (hR16 _ ?_)
    clear hR16 R16
    try simp only [thenK]
    exact ⟨_, by omega, _, .refl _ _, i + 1, rfl, by omega, by rw [hst]; simpa using hB8.keeps (Same.keeps (Same.refl _)), by simp only [upd_at, Nat.reduceEqDiff, if_false, e0_0], by simp only [upd_at, Nat.reduceEqDiff, if_false, e0_1], by simp only [upd_at, Nat.reduceEqDiff, if_false, e0_2], by simp only [upd_at, Nat.reduceEqDiff, if_false, e0_8], by simp only [upd_at, Nat.reduceEqDiff, if_true, if_false, e0_9]; rw [wrap_succ (by omega)]⟩
  ·skip
   obtain rfl : i = s.length := by have := of_decide_eq_false c10; omega
   rw [List.take_length] at hB
   refine pwp_exit ?_
   try simp only [thenK, blockK, if_true]
   clear hN5 N5
   try simp only [blockK, scopeK, if_true, Nat.reduceEqDiff, if_false, thenK]
   simp only [bodyK]
   exact ⟨_, rfl, _, _, .refl _ _ _, rfl, hB⟩
end Go.Pw
