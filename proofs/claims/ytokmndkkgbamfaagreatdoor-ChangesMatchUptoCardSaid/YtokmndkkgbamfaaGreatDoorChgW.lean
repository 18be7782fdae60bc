import Derived.Test.YtokmndkkgbamfaaGreatDoorChgS
import Derived.Test.YtokmndkkgbamfaaGreatDoorPwV
import Derived.Shelf.SlSortCmp.NoneTotal
import Derived.Test.YtokmndkkgbamfaaGreatDoorChgFacts
namespace Go.Pw
open Go Go.RowKit Go.Proofs
set_option maxRecDepth 100000
set_option linter.unusedSimpArgs false
set_option linter.unusedVariables false
open Go.Shelf Go.Sort Go.Lib
theorem grown_of_below {w w' : World} (h : Below w.heap.size w w') : ∃ q os, w' = Go.Sort.grow (w.drewN q) os := by
  have hd := h.drawn trivial
  obtain ⟨⟨h1, h2, h3, h4, h5⟩, -⟩ := h
  refine ⟨w'.drawn - w.drawn, w'.heap.extract w.heap.size w'.heap.size, ?_⟩
  cases w'
  rename_i hp' tp' dr' os' out'
  simp only [Go.Sort.grow, World.drewN] at *
  have e1 : hp' = w.heap ++ hp'.extract w.heap.size hp'.size := by
    apply Array.ext
    · simp; omega
    · intro i h6 h7
      rw [Array.getElem_append]
      split
      · rename_i hi
        have := h5 i hi
        rw [Array.getElem?_eq_getElem h6, Array.getElem?_eq_getElem hi] at this
        exact Option.some.inj this
      · rename_i hi
        simp only [Array.getElem_extract]
        congr 1
        omega
  rw [← e1, h2, h1, h3, show w.drawn + (dr' - w.drawn) = dr' by omega]
theorem below_grow (w : World) (os : Array Obj) : Below w.heap.size w (Go.Sort.grow w os) :=
  ⟨⟨rfl, rfl, rfl, by show w.heap.size ≤ (w.heap ++ os).size; simp, fun j hj => by show (w.heap ++ os)[j]? = w.heap[j]?; exact Array.getElem?_append_left hj⟩, fun _ => Nat.le_refl _⟩
abbrev ChgS := { z : Int × List UInt8 // z.2.length ≤ 9223372036854775807 }
instance : Inhabited ChgS := ⟨⟨(0, []), by decide⟩⟩
abbrev encS (x : ChgS) : List Value := encC x.1
abbrev cfS (x y : ChgS) : Int := ordR x.1.2 y.1.2
theorem swoS : Go.Sort.SWO (Go.Proofs.ltOf cfS) where
  irrefl x := sortSWO.irrefl x.1
  trans x y z h1 h2 := sortSWO.trans x.1 y.1 z.1 h1 h2
  ntrans x y z h1 h2 := sortSWO.ntrans x.1 y.1 z.1 h1 h2
theorem sub_list : ∀ (l : List (Int × List UInt8)), (∀ z ∈ l, z.2.length ≤ 9223372036854775807) → ∃ ls : List ChgS, ls.map (·.1) = l
  | [], _ => ⟨[], rfl⟩
  | a :: l, h => by
    obtain ⟨ls, e⟩ := sub_list l fun z hz => h z (by simp [hz])
    exact ⟨⟨a, h a (by simp)⟩ :: ls, by simp [e]⟩
theorem cmp_lays (blk off size : Nat) (w : World) : CmpLays Tryz.prog 36 #[] encS 2 cfS blk off size w := by
  intro m os dk hs x y
  generalize sortWorldK encS 2 w blk off m dk os = W
  have h := (sortC_fun W x.1 y.1 x.2 y.2 nil0).2 W loc0 [.agg (encS x).toArray, .agg (encS y).toArray] (hr_start W) rfl (args2 ⟨encS x, rfl, rfl, fun j p u h1 h2 => by
      match j, h1, h2 with
      | 0, h1, h2 => obtain rfl := Option.some.inj h1; obtain rfl := Option.some.inj h2; exact .val _ rfl
      | 1, h1, h2 => obtain rfl := Option.some.inj h1; obtain rfl := Option.some.inj h2; exact .val _ rfl⟩ ⟨encS y, rfl, rfl, fun j p u h1 h2 => by
      match j, h1, h2 with
      | 0, h1, h2 => obtain rfl := Option.some.inj h1; obtain rfl := Option.some.inj h2; exact .val _ rfl
      | 1, h1, h2 => obtain rfl := Option.some.inj h1; obtain rfl := Option.some.inj h2; exact .val _ rfl⟩)
  refine h.mono ?_
  rintro e w' ⟨v, r, h', m', rfl, ⟨rfl, _⟩, hr, hR, _⟩
  cases hr
  exact ⟨rfl, grown_of_below hR.below⟩
theorem flat_at (ls : List ChgS) {i : Nat} (x : ChgS) (hx : ls[i]? = some x) : (flatK encS 2 ls.toArray)[i * 2]? = some (.int .i64 x.1.1) ∧ (flatK encS 2 ls.toArray)[i * 2 + 1]? = some (.string ⟨x.1.2.toArray⟩) := by
  have hi : i < ls.length := (List.getElem?_eq_some_iff.1 hx).1
  have hxi : ls.toArray[i]! = x := by
    rw [getElem!_pos ls.toArray i (by simpa using hi)]
    simpa using (List.getElem?_eq_some_iff.1 hx).2
  have hsz : (flatK encS 2 ls.toArray).size = ls.length * 2 := by simp
  have g := fun t (ht : t < ls.length * 2) => get_flatK encS 2 ls.toArray t (by simpa using ht)
  constructor
  · have := g (i * 2) (by omega)
    rw [getElem!_pos _ _ (by rw [hsz]; omega), show i * 2 / 2 = i by omega, show i * 2 % 2 = 0 by omega, hxi] at this
    rw [Array.getElem?_eq_getElem (by rw [hsz]; omega), this]; rfl
  · have := g (i * 2 + 1) (by omega)
    rw [getElem!_pos _ _ (by rw [hsz]; omega), show (i * 2 + 1) / 2 = i by omega, show (i * 2 + 1) % 2 = 1 by omega, hxi] at this
    rw [Array.getElem?_eq_getElem (by rw [hsz]; omega), this]; rfl
theorem flat_all (ls : List ChgS) (Q : Nat → Value → Prop) (h : ∀ i x, ls[i]? = some x → Q (i * 2) (.int .i64 x.1.1) ∧ Q (i * 2 + 1) (.string ⟨x.1.2.toArray⟩)) : ∀ j, j < ls.length * 2 → Q j ((flatK encS 2 ls.toArray)[j]!) := by
  intro j hj
  obtain ⟨i, hi⟩ : ∃ i, i = j / 2 := ⟨_, rfl⟩
  have hil : i < ls.length := by omega
  have hx := List.getElem?_eq_getElem hil
  have F := flat_at ls _ hx
  have q := h i _ hx
  have hsz : (flatK encS 2 ls.toArray).size = ls.length * 2 := by simp
  rcases Nat.mod_two_eq_zero_or_one j with e | e
  · have ej : j = i * 2 := by omega
    subst ej
    rw [getElem!_pos _ _ (by rw [hsz]; omega)]
    rw [Array.getElem?_eq_getElem (by rw [hsz]; omega)] at F
    rw [Option.some.inj F.1]
    exact q.1
  · have ej : j = i * 2 + 1 := by omega
    subst ej
    rw [getElem!_pos _ _ (by rw [hsz]; omega)]
    have F2 := F.2
    rw [Array.getElem?_eq_getElem (by rw [hsz]; omega)] at F2
    rw [Option.some.inj F2]
    exact q.2
theorem has35 : Has Tryz.prog 35 := ⟨_, Tryz.func35, rfl, by kernel_rfl⟩
theorem has36 : Has Tryz.prog 36 := ⟨_, Tryz.func36, rfl, by kernel_rfl⟩
theorem enters36 : ∀ args w, (callFunc 36 args).run Tryz.prog w = .ok (.enter 36 args) w := enters_of Tryz.func36 (by kernel_rfl) rfl
theorem pw_sorted {ls : List ChgS} (h : Go.Sort.SortedIn (Go.Proofs.ltOf cfS) 0 ls.length ls.toArray) : (ls.map (·.1)).Pairwise fun x y => ordR x.2 y.2 ≤ 0 := by
  rw [List.pairwise_map, List.pairwise_iff_getElem]
  intro i j hi hj hij
  have := h i j (Nat.zero_le _) hij hj
  have e1 : ls.toArray[i]! = ls[i] := by rw [getElem!_pos _ _ (by simpa using hi)]; simp
  have e2 : ls.toArray[j]! = ls[j] := by rw [getElem!_pos _ _ (by simpa using hj)]; simp
  rw [e1, e2] at this
  have h1 : ¬ ordR ls[j].1.2 ls[i].1.2 < 0 := of_decide_eq_false this
  have := ordR_anti ls[j].1.2 ls[i].1.2
  omega
theorem sortC_proof (W0 : World) : SortC W0 := by
  intro h0 hp l p hb0 hK hpl hll ho
  obtain ⟨ls, rfl⟩ := sub_list l hpl
  refine ⟨has35, fun w m vs R hl hv => ?_⟩
  match vs, hl with
  | [v0, v1], _ =>
    have a0 := hv 0 _ v0 rfl rfl
    have a1 := hv 1 _ v1 rfl rfl
    obtain rfl : v1 = .func (.func 36) #[] #[] := by
      cases a1 with
      | clo _ _ vs hl _ =>
        obtain rfl : vs = [] := List.length_eq_zero_iff.1 hl
        rfl
    rcases ho with ⟨e1, e2⟩ | ⟨id, ver, es, e1, e2, e3, e4⟩
    · injection e1 with e1; injection e1 with e1; subst e1
      cases a0
      have hnil : ls = [] := List.map_eq_nil_iff.1 (List.map_eq_nil_iff.1 e2)
      subst hnil
      refine (AnyF.slices_SortFunc_none sortLays none 0 (.func (.func 36) #[] #[]) w).mono ?_
      rintro e w' ⟨rfl, rfl⟩
      exact ⟨_, _, hp, m, rfl, ⟨rfl, [], List.Perm.refl _, .nil, .inl ⟨rfl, rfl⟩, hK⟩, ⟨[], rfl, rfl, fun j s u h1 => by cases h1⟩, R, .refl _ _ _⟩
    · injection e1 with e1; injection e1 with e1; subst e1
      simp only [List.length_map] at e4 a0
      cases a0 with
      | own _ _ _ _ ad c hid hvr hbb =>
        obtain ⟨q1, -, q3⟩ := hbb _ e3 rfl
        obtain ⟨rfl, -⟩ := q3 (.inr rfl)
        obtain ⟨-, cur, fr, hg, hcur, hes, hcap, hfr0, hfr, hc⟩ := R.live id _ e3
        obtain rfl := hfr0 rfl
        simp only [Nat.zero_mul] at *
        have hcell : ∀ i x, ls[i]? = some x → cur[i * 2]? = some (.int .i64 x.1.1) ∧ cur[i * 2 + 1]? = some (.string ⟨x.1.2.toArray⟩) := by
          intro i x hx
          have hi : i < ls.length := (List.getElem?_eq_some_iff.1 hx).1
          have he : es[i]? = some (chgPV x.1) := by
            have : (es.take ls.length)[i]? = some (chgPV x.1) := by rw [e4]; simp [hx]
            rwa [List.getElem?_take_of_lt hi] at this
          obtain ⟨-, hcc⟩ := hc i _ he
          obtain ⟨u, hu, hr⟩ := hcc 0 _ rfl
          obtain ⟨u2, hu2, hr2⟩ := hcc 1 _ rfl
          cases hr; cases hr2
          exact ⟨hu, hu2⟩
        have hcs : ls.length * 2 ≤ cur.size := by rw [hcur]; have : ls.length ≤ (m id).2 := by omega
                                                  omega
        have hH : HoldsK encS 2 w (m id).1 0 ls.toArray := by
          intro j hj
          rw [size_flatK] at hj
          have hj : j < ls.length * 2 := by simpa using hj
          refine ⟨?_, by simp [World.frozen?, hg]⟩
          rw [Nat.zero_add]
          show w.cell? _ = some ((flatK encS 2 ls.toArray)[j]!)
          have hcl : ∀ j, w.cell? ⟨(m id).1, j, none⟩ = cur[j]? := fun j => by simp [World.cell?, hg]
          rw [hcl]
          exact flat_all ls (fun j v => cur[j]? = some v) hcell j hj
        have hlt := (R.live id _ e3).lt
        refine (AnyQ.slices_SortFunc sortLays 2 Tryz.isAgg90 Tryz.sizeOf90 encS (fun x => rfl) (fun x => encC_one x.1) cfS swoS 36 #[] (m id).1 0 c ls.toArray w enters36 (cmp_lays _ _ _ _) hH hlt (by simp only [List.size_toArray]; simp only [List.length_map] at hll; omega)).mono ?_
        rintro e w' ⟨rfl, d', n, os, hperm, hsorted, rfl⟩
        obtain ⟨l', rfl⟩ : ∃ l', d' = List.toArray l' := ⟨d'.toList, by simp⟩
        obtain ⟨hsize, -, hpm⟩ := hperm
        simp only [List.size_toArray] at hsize hsorted hpm
        rw [← hsize] at hsorted
        have hpm' : l'.Perm ls := by
          have a1 : (l'.toArray.extract 0 ls.length).toList = l' := by rw [← hsize]; simp
          have a2 : (ls.toArray.extract 0 ls.length).toList = ls := by simp
          rwa [a1, a2] at hpm
        have hflen : (flatK encS 2 l'.toArray).size = ls.length * 2 := by simp [hsize]
        have hrow : ∀ k, (Go.Sort.putCells _root_.id 0 (flatK encS 2 l'.toArray) cur)[k]? = if k < ls.length * 2 then (flatK encS 2 l'.toArray)[k]? else cur[k]? := by
          intro k
          simp only [Go.Sort.putCells, Array.getElem?_mapIdx, hflen, Nat.zero_le, true_and, Nat.zero_add, Nat.sub_zero]
          by_cases hk : k < ls.length * 2
          · rw [if_pos hk, Array.getElem?_eq_getElem (by omega), Array.getElem?_eq_getElem (by omega), Option.map_some, if_pos hk, getElem!_pos _ _ (by omega)]
            rfl
          · rw [if_neg hk]
            cases cur[k]? with
            | none => rfl
            | some y => rw [Option.map_some, if_neg hk]
        have hw1 : (putRowK encS 2 (Go.Sort.ahead w n) (m id).1 0 l'.toArray).heap[(m id).1]? = some (.cells (Go.Sort.putCells _root_.id 0 (flatK encS 2 l'.toArray) cur) 90 (0, 0)) := by
          simp [putRowK, Go.Sort.putRow, Go.Sort.mapBlock, Array.getElem?_modify, Go.Sort.ahead, hg, Go.Sort.onCells]
        have hw2 : (putRowK encS 2 (Go.Sort.ahead w n) (m id).1 0 l'.toArray).heap.size = w.heap.size := by
          simp [putRowK, Go.Sort.putRow, Go.Sort.mapBlock, Go.Sort.ahead]
        have X := HR.upd R e3 ⟨90, 2, l'.map (fun x => chgPV x.1) ++ es.drop ls.length, ver, true⟩ (m id).1 (m id).2 (w' := putRowK encS 2 (Go.Sort.ahead w n) (m id).1 0 l'.toArray) rfl rfl rfl (by rw [hw2]; exact Nat.le_refl _)
          (fun k hk hne => by simp [putRowK, Go.Sort.putRow, Go.Sort.mapBlock, Array.getElem?_modify, Go.Sort.ahead, Ne.symm hne]) (.inl rfl) (Nat.le_refl _)
          (fun _ => ⟨rfl, rfl, rfl, by simp; omega⟩) ⟨_, (0, 0), (show 0 < 2 by decide), hw1, by rw [← hcur]; simp [Go.Sort.putCells], by simp; omega, hcap, fun _ => rfl, .inl (Nat.le_refl _), fun i es2 hi => by
            by_cases hil : i < l'.length
            · have hx := List.getElem?_eq_getElem hil
              have he2 : es2 = chgPV l'[i].1 := by
                simp only at hi
                rw [List.getElem?_append_left (by simpa using hil), List.getElem?_map, hx, Option.map_some] at hi
                exact (Option.some.inj hi).symm
              subst he2
              have F := flat_at l' _ hx
              refine ⟨rfl, fun j q hj => ?_⟩
              match j, hj with
              | 0, hj =>
                obtain rfl := Option.some.inj hj
                exact ⟨_, by rw [hrow, if_pos (by simp only; omega)]; exact F.1, .val _ rfl⟩
              | 1, hj =>
                obtain rfl := Option.some.inj hj
                exact ⟨_, by rw [hrow, if_pos (by simp only; omega)]; exact F.2, .val _ rfl⟩
            · simp only at hi
              rw [List.getElem?_append_right (by simpa using hil), List.length_map, List.getElem?_drop, show ls.length + (i - l'.length) = i by omega] at hi
              refine ⟨(hc i es2 hi).1, fun j q hj => ?_⟩
              obtain ⟨u, hu, hr⟩ := (hc i es2 hi).2 j q hj
              exact ⟨u, by rw [hrow, if_neg (by simp only; omega)]; exact hu, hr⟩⟩ (fun _ => Nat.le_add_right _ _)
        refine ⟨_, _, _, _, rfl, ⟨rfl, l'.map (·.1), hpm'.map _, pw_sorted hsorted, .inr ⟨id, ver, _, by simp [hsize], e2, blk_set _ _ _, ?_⟩, hK.set hb0 e2⟩, ⟨[], rfl, rfl, fun j s u h1 => by cases h1⟩, X.1.grow (below_grow _ os), X.2.trans (Ext.grow (below_grow _ os))⟩
        rw [List.map_map]
        exact List.take_left' (by simp)
end Go.Pw
