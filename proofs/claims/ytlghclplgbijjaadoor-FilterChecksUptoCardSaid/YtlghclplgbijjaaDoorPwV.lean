/- Own work: part of the proof of the row YtlghclplgbijjaaDoorRowFilterChecksUpto; no condition of its own. -/
import Derived.Test.YtlghclplgbijjaaDoorPwM
import Derived.Lib.LaidTab
import Derived.Carry
import Derived.OpenVars
import Derived.ProofKit
namespace Go.Pw
open Go Go.RowKit
def nil0 : Hp := ⟨fun _ => none, 0⟩
def loc0 : Loc := fun _ => (0, 0)
theorem hr_start (W : World) : HR W W nil0 loc0 :=
  ⟨Below.refl' W, fun _ _ h => by simp [nil0] at h, fun _ _ h => by simp [nil0] at h, fun _ _ h => by simp [nil0] at h, fun _ _ _ _ h => by simp [nil0] at h⟩
theorem law_calls {P : Program} {W : World} {f : FuncId} {args : List SV} {b : Value} (H : PFun P W f args (.sv (.one (.val b)))) {vs : List Value} (hl : vs.length = args.length)
    (hv : ∀ (j : Nat) (s : SV) (v : Value), args[j]? = some s → vs[j]? = some v → SVR W nil0 loc0 s v) :
    Calls P f vs.toArray W fun e w' => e = .returned b ∧ Below W.heap.size W w' := by
  refine ((H nil0).2 W loc0 vs (hr_start W) hl hv).mono ?_
  rintro e w' ⟨v, r, h', m', rfl, ⟨rfl, _⟩, hr, hR, _⟩
  cases hr
  exact ⟨rfl, hR.below⟩
end Go.Pw
namespace Go.Pw
open Go Go.RowKit
def contig (P : Program) : Nat → List Field → Bool
  | _, [] => true
  | o, f :: r => f.offset == o && contig P (o + P.cellsOf f.type) r
def tyOne (P : Program) (G : TypeId → Bool) (t : TypeId) : Bool := match P.underlying t with
    | some .bool => P.cellsOf t == 1
    | some (.int _) => P.cellsOf t == 1
    | some .string => P.cellsOf t == 1
    | some (.slice e) => decide (0 < P.cellsOf e) && (szOf P e == some (P.cellsOf e)) && G e
    | some (.struct fs) => contig P 0 fs.toList && ((fs.toList.map fun f => P.cellsOf f.type).sum == P.cellsOf t) && fs.toList.all fun f => G f.type
    | some (.array k e) => (k * P.cellsOf e == P.cellsOf t) && G e
    | _ => false
mutual
def pvW : PV → Nat
  | .val (.string s) => s.size + 1
  | .ro _ _ xs => pvWss xs + 1
  | _ => 1
def pvWs : List PV → Nat
  | [] => 0
  | p :: r => pvW p + pvWs r
def pvWss : List (List PV) → Nat
  | [] => 0
  | ps :: r => pvWs ps + pvWss r
end
theorem pvWs_append (a b : List PV) : pvWs (a ++ b) = pvWs a + pvWs b := by
  induction a with
  | nil => simp [pvWs]
  | cons x a ih => simp only [List.cons_append, pvWs, ih]; omega
structure BulkLaw {H : Type} (bk : DataW H → Nat) (bks : List (DataW H) → Nat) : Prop where
  str : ∀ l, bk (.lit (.string l)) = l.length + 1
  bool : ∀ b, bk (.lit (.bool b)) = 1
  int : ∀ k z, bk (.lit (.int k z)) = 1
  nil : bk .nil = 1
  slice : ∀ es sp, bk (.slice es sp) = bks es + bks sp + 1
  agg : ∀ ps, bk (.agg ps) = bks ps + 1
  nils : bks [] = 0
  cons : ∀ d r, bks (d :: r) = bk d + bks r
mutual
def TyOK (P : Program) : Nat → TypeId → List PV → Prop
  | 0, _, _ => False
  | n + 1, t, ps => match P.underlying t with
    | some .bool => ∃ b, ps = [.val (.bool b)]
    | some (.int k) => ∃ z, ps = [.val (.int k z)] ∧ (Lit.int k z).wf = true
    | some .string => ∃ l : List UInt8, ps = [pstr l] ∧ l.length ≤ maxLen
    | some (.slice e) => ∃ xs, ps = [.ro false (P.cellsOf e) xs] ∧ xs.length ≤ maxLen ∧ ∀ es ∈ xs, TyOK P n e es
    | some (.struct fs) => ∃ parts : List (List PV), ps = parts.flatten ∧ TyFs P n fs.toList parts
    | some (.array k e) => ∃ parts : List (List PV), ps = parts.flatten ∧ parts.length = k ∧ ∀ part ∈ parts, TyOK P n e part
    | _ => False
  termination_by n => (n, 0)
def TyFs (P : Program) : Nat → List Field → List (List PV) → Prop
  | _, [], parts => parts = []
  | n, f :: fs, parts => ∃ p rest, parts = p :: rest ∧ TyOK P n f.type p ∧ TyFs P n fs rest
  termination_by n fs => (n, fs.length + 1)
end
theorem tyOK_succ (P : Program) (n : Nat) (t : TypeId) (ps : List PV) : TyOK P (n + 1) t ps = (match P.underlying t with
    | some .bool => ∃ b, ps = [.val (.bool b)]
    | some (.int k) => ∃ z, ps = [.val (.int k z)] ∧ (Lit.int k z).wf = true
    | some .string => ∃ l : List UInt8, ps = [pstr l] ∧ l.length ≤ maxLen
    | some (.slice e) => ∃ xs, ps = [.ro false (P.cellsOf e) xs] ∧ xs.length ≤ maxLen ∧ ∀ es ∈ xs, TyOK P n e es
    | some (.struct fs) => ∃ parts : List (List PV), ps = parts.flatten ∧ TyFs P n fs.toList parts
    | some (.array k e) => ∃ parts : List (List PV), ps = parts.flatten ∧ parts.length = k ∧ ∀ part ∈ parts, TyOK P n e part
    | _ => False) := by rw [TyOK]
theorem tyFs_nil (P : Program) (n : Nat) (parts : List (List PV)) : TyFs P n [] parts = (parts = []) := by rw [TyFs]
theorem tyFs_cons (P : Program) (n : Nat) (f : Field) (fs : List Field) (parts : List (List PV)) : TyFs P n (f :: fs) parts = (∃ p rest, parts = p :: rest ∧ TyOK P n f.type p ∧ TyFs P n fs rest) := by rw [TyFs]
section
variable {H : Type} {bk : DataW H → Nat} {bks : List (DataW H) → Nat} {enc : TypeId × Value → H} {P : Program} {w : World} {base : Nat} {sp : Nat → Bool} {held : Bool}
def Cells (w : World) (ps : List PV) (cs : List Value) : Prop := ps.length = cs.length ∧ ∀ (j : Nat) (p : PV) (v : Value), ps[j]? = some p → cs[j]? = some v → VR w nil0 loc0 p v
theorem Cells.one {p : PV} {v : Value} (h : VR w nil0 loc0 p v) : Cells w [p] [v] :=
  ⟨rfl, fun j q u h1 h2 => by
    match j, h1, h2 with
    | 0, h1, h2 => obtain rfl := Option.some.inj h1; obtain rfl := Option.some.inj h2; exact h⟩
theorem Cells.append {p q : List PV} {a b : List Value} (h1 : Cells w p a) (h2 : Cells w q b) : Cells w (p ++ q) (a ++ b) := by
  refine ⟨by simp [h1.1, h2.1], fun j x v hx hv => ?_⟩
  rw [List.getElem?_append] at hx hv
  rw [h1.1] at hx
  split at hx
  · rename_i hlt
    rw [if_pos hlt] at hv
    exact h1.2 j x v hx hv
  · rename_i hlt
    rw [if_neg hlt] at hv
    exact h2.2 _ x v hx hv
theorem cells?_list {a : Addr} {n : Nat} {cs : List Value} (h : w.cells? base a n = some cs) : cs.length = n ∧ ∀ (j : Nat) (v : Value), cs[j]? = some v → w.cell? (a.add j) = some v := by
  unfold World.cells? at h
  split at h
  · refine ⟨by simpa using Lib.mapM_length h, fun j v hv => ?_⟩
    have hj : j < n := by
      have h1 := Lib.mapM_length h
      have h2 := (List.getElem?_eq_some_iff.1 hv).1
      simp at h1
      omega
    obtain ⟨b, hb, hc⟩ := Lib.mapM_at h j j (List.getElem?_range hj)
    rw [hv] at hb
    obtain rfl := Option.some.inj hb
    exact hc
  · cases h
theorem bks_append (hbk : BulkLaw bk bks) (a b : List (DataW H)) : bks (a ++ b) = bks a + bks b := by
  induction a with
  | nil => simp [hbk.nils]
  | cons x a ih => rw [List.cons_append, hbk.cons, hbk.cons, ih]; omega
theorem pvWss_le (hbk : BulkLaw bk bks) : ∀ (es : List (List PV)) (ds : List (DataW H)), es.length = ds.length → (∀ (i : Nat) (e : List PV) (d : DataW H), es[i]? = some e → ds[i]? = some d → pvWs e ≤ bk d) → pvWss es ≤ bks ds
  | [], [], _, _ => by simp [pvWss]
  | [], _ :: _, h, _ => by simp at h
  | _ :: _, [], h, _ => by simp at h
  | e :: es, d :: ds, h, hw => by
    have h1 := hw 0 e d rfl rfl
    have h2 := pvWss_le hbk es ds (by simpa using h) fun i e d a b => hw (i + 1) e d (by simpa using a) (by simpa using b)
    rw [pvWss, hbk.cons]
    omega
theorem open_fields (hbk : BulkLaw bk bks) {G : TypeId → Bool} {n fuel : Nat} {cs : List Value} (ih : ∀ t cs x, G t = true → DataW.trod enc P w base sp held fuel t cs = some x → cs.length = P.cellsOf t → ∃ ps, TyOK P n t ps ∧ Cells w ps cs ∧ pvWs ps ≤ bk x.1) :
    ∀ (fs : List Field) (o : Nat) (xs : List (DataW H × List MemPlace)), contig P o fs = true → (fs.all fun f => G f.type) = true → o + (fs.map fun f => P.cellsOf f.type).sum ≤ cs.length →
      (fs.mapM fun f => DataW.trod enc P w base sp held fuel f.type ((cs.drop f.offset).take (P.cellsOf f.type))) = some xs →
      ∃ parts : List (List PV), TyFs P n fs parts ∧ Cells w parts.flatten ((cs.drop o).take (fs.map fun f => P.cellsOf f.type).sum) ∧ pvWs parts.flatten ≤ bks (xs.map (·.1))
  | [], o, xs, _, _, _, _ => ⟨[], by rw [tyFs_nil], by simp [Cells], by simp [pvWs]⟩
  | f :: fs, o, xs, hc, hg, hl, hm => by
    simp only [contig, Bool.and_eq_true, beq_iff_eq] at hc
    simp only [List.all_cons, Bool.and_eq_true] at hg
    simp only [List.map_cons, List.sum_cons] at hl
    simp only [List.mapM_cons, Option.bind_eq_bind, Option.bind_eq_some_iff, Option.pure_def, Option.some.injEq] at hm
    obtain ⟨x, hx, r, hr, rfl⟩ := hm
    obtain ⟨ps, h1, h2, hw1⟩ := ih _ _ _ hg.1 hx (by simp only [List.length_take, List.length_drop]; omega)
    obtain ⟨parts, h3, h4, hw2⟩ := open_fields hbk ih fs (o + P.cellsOf f.type) r hc.2 hg.2 (by omega) hr
    refine ⟨ps :: parts, by rw [tyFs_cons]; exact ⟨ps, parts, rfl, h1, h3⟩, ?_⟩
    rw [hc.1] at h2
    have := h2.append h4
    simp only [List.flatten_cons, List.map_cons, List.sum_cons]
    have e : (cs.drop o).take (P.cellsOf f.type) ++ (cs.drop (o + P.cellsOf f.type)).take (fs.map fun f => P.cellsOf f.type).sum = (cs.drop o).take (P.cellsOf f.type + (fs.map fun f => P.cellsOf f.type).sum) := by
      rw [List.take_add, List.drop_drop]
    rw [e] at this
    exact ⟨this, by rw [pvWs_append, hbk.cons]; omega⟩
theorem open_array (hbk : BulkLaw bk bks) {n fuel k : Nat} {e : TypeId} {cs : List Value} (ih : ∀ cs x, DataW.trod enc P w base sp held fuel e cs = some x → cs.length = P.cellsOf e → ∃ ps, TyOK P n e ps ∧ Cells w ps cs ∧ pvWs ps ≤ bk x.1) (hl : k * P.cellsOf e = cs.length)
    (xs : List (DataW H × List MemPlace)) (hm : ((List.range k).mapM fun i => DataW.trod enc P w base sp held fuel e ((cs.drop (i * P.cellsOf e)).take (P.cellsOf e))) = some xs) :
    ∀ m, m ≤ k → ∃ parts : List (List PV), parts.length = m ∧ (∀ part ∈ parts, TyOK P n e part) ∧ Cells w parts.flatten (cs.take (m * P.cellsOf e)) ∧ pvWs parts.flatten ≤ bks ((xs.take m).map (·.1))
  | 0, _ => ⟨[], rfl, by simp, by simp [Cells], by simp [pvWs]⟩
  | m + 1, hk => by
    obtain ⟨parts, h1, h2, h3, hw1⟩ := open_array hbk ih hl xs hm m (by omega)
    obtain ⟨x, hxm, hx⟩ := Lib.mapM_at hm m m (List.getElem?_range (by omega))
    have hmul : (m + 1) * P.cellsOf e ≤ k * P.cellsOf e := Nat.mul_le_mul_right _ hk
    have hs : (m + 1) * P.cellsOf e = m * P.cellsOf e + P.cellsOf e := Nat.succ_mul _ _
    obtain ⟨ps, h4, h5, hw2⟩ := ih _ _ hx (by simp only [List.length_take, List.length_drop]; omega)
    refine ⟨parts ++ [ps], by simp [h1], fun part hp => ?_, ?_, ?_⟩
    · rcases List.mem_append.1 hp with h | h
      · exact h2 part h
      · rw [List.mem_singleton.1 h]; exact h4
    · have := h3.append h5
      rw [List.flatten_append, List.flatten_singleton, hs, List.take_add]
      exact this
    · rw [List.flatten_append, List.flatten_singleton, pvWs_append, List.take_add_one, hxm, List.map_append, bks_append hbk]
      simp only [Option.toList_some, List.map_cons, List.map_nil, hbk.cons, hbk.nils]
      omega
theorem trod_rec (hbk : BulkLaw bk bks) {G : TypeId → Bool} (hG : ∀ t, G t = true → tyOne P G t = true) : ∀ (fuel : Nat) (t : TypeId) (cs : List Value) (x : DataW H × List MemPlace), G t = true → DataW.trod enc P w base sp held fuel t cs = some x → cs.length = P.cellsOf t →
    ∃ ps, TyOK P fuel t ps ∧ Cells w ps cs ∧ pvWs ps ≤ bk x.1
  | 0, t, cs, x, _, hd, _ => by simp [DataW.trod] at hd
  | fuel + 1, t, cs, x, hg, hd, hl => by
    replace hg := hG t hg
    unfold tyOne at hg
    simp only [tyOK_succ]
    split at hg
    · rename_i ht
      obtain ⟨b, rfl, rfl⟩ := DataW.trod_bool ht hd
      try dsimp only
      exact ⟨_, ⟨b, rfl⟩, .one (.val _ rfl), by rw [hbk.bool]; simp [pvWs, pvW]⟩
    · rename_i k ht
      obtain ⟨z, rfl, rfl, hw⟩ := DataW.trod_int ht hd
      try dsimp only
      exact ⟨_, ⟨z, rfl, hw⟩, .one (.val _ rfl), by rw [hbk.int]; simp [pvWs, pvW]⟩
    · rename_i ht
      obtain ⟨s, rfl, rfl, hs⟩ := DataW.trod_string ht hd
      try dsimp only
      have e : pstr s.data.toList = .val (.string s) := by simp
      exact ⟨_, ⟨s.data.toList, rfl, by simpa using hs⟩, .one (by rw [e]; exact .val _ rfl), by rw [hbk.str]; simp [pvWs, pvW]⟩
    · rename_i e ht
      simp only [Bool.and_eq_true, decide_eq_true_eq, beq_iff_eq] at hg
      obtain ⟨⟨hpos, hsz⟩, hge⟩ := hg
      try dsimp only
      rcases DataW.trod_slice ht hd with ⟨rfl, rfl⟩ | ⟨a, len, cap, elems, rest, m, hm, rfl, rfl, hb, hlc, hmax, hlen, hel, _⟩
      · exact ⟨_, ⟨[], rfl, Nat.zero_le _, by simp⟩, .one (.ro0 _ _ _ _ (fun h => by cases h)), by rw [hbk.nil]; simp [pvWs, pvW, pvWss]⟩
      · obtain rfl : m = fuel := by omega
        have each : ∀ i, i < len → ∃ es, TyOK P m e es ∧ (∀ d, elems[i]? = some d → pvWs es ≤ bk d.1) ∧ es.length = P.cellsOf e ∧ ∃ cs', w.cells? base (a.add (i * P.cellsOf e)) (P.cellsOf e) = some cs' ∧ Cells w es cs' := fun i hi => by
          have h1 := hel i hi
          rw [List.getElem?_eq_getElem (by omega)] at h1
          obtain ⟨cs', h2, h3⟩ := Option.bind_eq_some_iff.1 h1
          obtain ⟨hl', _⟩ := cells?_list h2
          obtain ⟨ps, h4, h5, h6⟩ := trod_rec hbk hG m e cs' _ hge h3 hl'
          exact ⟨ps, h4, fun d hd => by rw [List.getElem?_eq_getElem (by omega)] at hd; obtain rfl := Option.some.inj hd; exact h6, by rw [h5.1, hl'], cs', h2, h5⟩
        by_cases h0 : len = 0
        · subst h0
          exact ⟨_, ⟨[], rfl, Nat.zero_le _, by simp⟩, .one (.ro0 _ _ _ _ (fun h => by cases h)), by rw [hbk.slice]; simp [pvWs, pvW, pvWss]⟩
        · have hc := fun i (hi : i < len) => (each i hi).choose_spec
          let es : Nat → List PV := fun i => if hi : i < len then (each i hi).choose else []
          have hes : ∀ i, i < len → TyOK P m e (es i) ∧ (∀ d, elems[i]? = some d → pvWs (es i) ≤ bk d.1) ∧ (es i).length = P.cellsOf e ∧ ∃ cs', w.cells? base (a.add (i * P.cellsOf e)) (P.cellsOf e) = some cs' ∧ Cells w (es i) cs' := fun i hi => by
            simp only [es, dif_pos hi]
            exact hc i hi
          have hspot : a = ⟨a.block, a.off, none⟩ ∧ a.block < w.heap.size := by
            obtain ⟨_, _, _, cs', h2, _⟩ := hes 0 (by omega)
            obtain ⟨hl', hcell⟩ := cells?_list h2
            have h3 := hcell 0 cs'[0] (List.getElem?_eq_getElem (by omega))
            simp only [Nat.zero_mul, Addr.add, if_true] at h3
            have hlt := block_lt_of_cell h3
            obtain ⟨b, o, s⟩ := a
            cases s with
            | none => exact ⟨rfl, hlt⟩
            | some q =>
              unfold World.cell? at h3
              split at h3
              · simp at h3
              · cases h3
          have hlenxs : ((List.range len).map es).length = len := by simp
          have hget : ∀ i ys, ((List.range len).map es)[i]? = some ys → i < len ∧ ys = es i := fun i ys hi => by
            have hlt := (List.getElem?_eq_some_iff.1 hi).1
            simp at hlt
            simp [hlt] at hi
            exact ⟨hlt, hi.symm⟩
          refine ⟨[.ro false (P.cellsOf e) ((List.range len).map es)], ⟨_, rfl, by rw [hlenxs]; omega, fun ys hy => ?_⟩, .one ?_, ?_⟩
          · obtain ⟨i, hi, rfl⟩ := List.mem_map.1 hy
            exact (hes i (by simpa using hi)).1
          · rw [hspot.1]
            refine .ro false _ _ a.block a.off cap len (fun i j => ((w.cell? ⟨a.block, a.off + i * P.cellsOf e + j, none⟩).getD undef)) hlenxs (fun h => by cases h) hlc hspot.2 (fun id b hb => by simp [nil0] at hb) (fun i ys hi => ?_) (fun i ys j p hi hj => ?_) (fun i ys j p hi hj => ?_)
            · obtain ⟨hlt, rfl⟩ := hget i ys hi
              exact (hes i hlt).2.2.1
            all_goals
              obtain ⟨hlt, rfl⟩ := hget i ys hi
              obtain ⟨_, _, hl1, cs', h2, h3⟩ := hes i hlt
              obtain ⟨hl2, hcell⟩ := cells?_list h2
              have hj' := (List.getElem?_eq_some_iff.1 hj).1
              have h4 : cs'[j]? = some cs'[j] := List.getElem?_eq_getElem (by omega)
              have h5 := hcell j _ h4
              have h6 : ((a.add (i * P.cellsOf e)).add j) = ⟨a.block, a.off + i * P.cellsOf e + j, none⟩ := by
                rw [hspot.1, addr_add, addr_add]
              rw [h6] at h5
            · rw [h5]; rfl
            · rw [h5]; exact h3.2 j p _ hj h4
          · rw [hbk.slice]
            have := pvWss_le hbk ((List.range len).map es) (elems.map (·.1)) (by simp; omega) (fun i e d he hd => by
              obtain ⟨hlt, rfl⟩ := hget i e he
              rw [List.getElem?_map] at hd
              obtain ⟨y, hy, rfl⟩ := Option.map_eq_some_iff.1 hd
              exact (hes i hlt).2.1 y hy)
            simp only [pvWs, pvW]
            omega
    · rename_i fs ht
      simp only [Bool.and_eq_true, beq_iff_eq] at hg
      obtain ⟨⟨hcon, hsum⟩, hall⟩ := hg
      try dsimp only
      simp only [DataW.trod, ht] at hd
      rw [if_pos hl] at hd
      obtain ⟨xs, hm, rfl⟩ := Option.map_eq_some_iff.1 hd
      obtain ⟨parts, h1, h2, h3⟩ := open_fields hbk (G := G) (P := P) (n := fuel) (fuel := fuel) (cs := cs) (fun t cs x a b c => trod_rec hbk hG fuel t cs x a b c) fs.toList 0 xs hcon hall (by omega) hm
      refine ⟨parts.flatten, ⟨parts, rfl, h1⟩, ?_⟩
      rw [List.drop_zero, List.take_of_length_le (by omega)] at h2
      exact ⟨h2, by rw [hbk.agg]; omega⟩
    · rename_i k e ht
      simp only [Bool.and_eq_true, beq_iff_eq] at hg
      obtain ⟨hk, hge⟩ := hg
      try dsimp only
      simp only [DataW.trod, ht] at hd
      rw [if_pos hl] at hd
      obtain ⟨xs, hm, rfl⟩ := Option.map_eq_some_iff.1 hd
      obtain ⟨parts, h1, h2, h3, h4⟩ := open_array hbk (P := P) (n := fuel) (fuel := fuel) (k := k) (e := e) (cs := cs) (fun cs x b c => trod_rec hbk hG fuel e cs x hge b c) (by omega) xs hm k (Nat.le_refl _)
      refine ⟨parts.flatten, ⟨parts, rfl, h1, h2⟩, ?_⟩
      rw [List.take_of_length_le (by omega)] at h3
      have hxk : xs.length = k := by simpa using Lib.mapM_length hm
      rw [List.take_of_length_le (by omega)] at h4
      exact ⟨h3, by rw [hbk.agg]; omega⟩
    · cases hg
def svW : SV → Nat
  | .one p => pvW p
  | .agg ps => pvWs ps
def ArgOKR (P : Program) (t : TypeId) : SV → Prop
  | .one p => (∃ n, TyOK P n t [p]) ∧ (match P.underlying t with | some (.struct _) => False | some (.array _ _) => False | _ => True)
  | .agg ps => (∃ n, TyOK P n t ps) ∧ (match P.underlying t with | some (.struct _) => True | some (.array _ _) => True | _ => False)
def argGoodR (P : Program) (G : TypeId → Bool) (t : TypeId) : Bool := G t && (match P.underlying t with | some (.slice _) => P.cellsOf t == 1 | _ => true)
theorem open_argR (hbk : BulkLaw bk bks) {G : TypeId → Bool} (hG : ∀ t, G t = true → tyOne P G t = true) {t : TypeId} {v : Value} {d : DataW H} {p : List MemPlace} {r : Reach} {b0 : Nat} (hg : argGoodR P G t = true) (hval : Value.okWide P w r b0 t v) (hd : DataW.Trod enc P w base sp held t v d p) :
    ∃ s, ArgOKR P t s ∧ SVR w nil0 loc0 s v ∧ svW s ≤ bk d := by
  obtain ⟨fuel, hd⟩ := hd
  simp only [argGoodR, Bool.and_eq_true] at hg
  obtain ⟨hg, hsl⟩ := hg
  have hg0 := hg
  replace hg := hG t hg
  unfold tyOne at hg
  have single : ∀ u : Value, v = u → u.cells = #[u] → P.cellsOf t = 1 → (match P.underlying t with | some (.struct _) => False | some (.array _ _) => False | _ => True) → ∃ s, ArgOKR P t s ∧ SVR w nil0 loc0 s v ∧ svW s ≤ bk d := by
    rintro u rfl hc h1 hm
    rw [hc] at hd
    obtain ⟨ps, a1, a2, a3⟩ := trod_rec hbk hG fuel t _ _ hg0 hd (by simp [h1])
    obtain ⟨q, rfl⟩ : ∃ q, ps = [q] := by
      have := a2.1
      simp at this
      exact List.length_eq_one_iff.1 this
    exact ⟨.one q, ⟨⟨_, a1⟩, hm⟩, a2.2 0 q v rfl rfl, by simpa [pvWs, svW] using a3⟩
  split at hg
  · rename_i ht
    obtain ⟨b, rfl⟩ := WideShapes.okWide_bool ht hval
    exact single _ rfl rfl (by simpa using hg) (by rw [ht]; trivial)
  · rename_i k ht
    obtain ⟨b, rfl⟩ := WideShapes.okWide_int ht hval
    exact single _ rfl rfl (by simpa using hg) (by rw [ht]; trivial)
  · rename_i ht
    obtain ⟨b, rfl⟩ := WideShapes.okWide_string ht hval
    exact single _ rfl rfl (by simpa using hg) (by rw [ht]; trivial)
  · rename_i e ht
    obtain ⟨a, len, cap, rfl⟩ := WideShapes.okWide_slice ht hval
    exact single _ rfl rfl (by rw [ht] at hsl; simpa using hsl) (by rw [ht]; trivial)
  · rename_i fs ht
    obtain ⟨cs, rfl, hcs⟩ := WideShapes.okWide_struct ht hval
    obtain ⟨ps, a1, a2, a3⟩ := trod_rec hbk hG fuel t _ _ hg0 hd (by simpa [Value.cells] using hcs)
    refine ⟨.agg ps, ⟨⟨_, a1⟩, by rw [ht]; trivial⟩, ⟨cs.toList, by simp, ?_, ?_⟩, a3⟩
    · have := a2.1
      simp only [Value.cells] at this
      exact this.symm
    · intro j q u h1 h2
      exact a2.2 j q u h1 h2
  · rename_i k e ht
    have hv : ∃ cs, v = .agg cs ∧ cs.size = P.cellsOf t := by
      unfold Value.okWide at hval
      rw [ht] at hval
      obtain ⟨cs, h1, h2, _⟩ := hval
      exact ⟨cs, h1, h2⟩
    obtain ⟨cs, rfl, hcs⟩ := hv
    obtain ⟨ps, a1, a2, a3⟩ := trod_rec hbk hG fuel t _ _ hg0 hd (by simpa [Value.cells] using hcs)
    refine ⟨.agg ps, ⟨⟨_, a1⟩, by rw [ht]; trivial⟩, ⟨cs.toList, by simp, ?_, ?_⟩, a3⟩
    · have := a2.1
      simp only [Value.cells] at this
      exact this.symm
    · intro j q u h1 h2
      exact a2.2 j q u h1 h2
  · cases hg
def ArgsOKR (P : Program) : List TypeId → List SV → Prop
  | [], svs => svs = []
  | t :: ts, svs => ∃ s rest, svs = s :: rest ∧ ArgOKR P t s ∧ ArgsOKR P ts rest
theorem open_argsR (hbk : BulkLaw bk bks) {G : TypeId → Bool} (hG : ∀ t, G t = true → tyOne P G t = true) {r : Reach} {b0 : Nat} : ∀ {ts : List TypeId} {vs : List Value} {ds : List (DataW H)} {ps : List MemPlace}, ts.all (argGoodR P G) = true → DataW.TrodAll enc P w base sp held ts vs ds ps →
    (∀ (j : Nat) t v, ts[j]? = some t → vs[j]? = some v → Value.okWide P w r b0 t v) →
    ∃ svs, ArgsOKR P ts svs ∧ vs.length = svs.length ∧ (∀ (j : Nat) (s : SV) (v : Value), svs[j]? = some s → vs[j]? = some v → SVR w nil0 loc0 s v) ∧ (svs.map svW).sum ≤ bks ds
  | [], [], [], _, _, _, _ => ⟨[], rfl, rfl, fun j s v h => by simp at h, by simp⟩
  | t :: ts, v :: vs, d :: ds, ps, hg, h, hval => by
    simp only [List.all_cons, Bool.and_eq_true] at hg
    obtain ⟨p, q, h1, h2, _⟩ := h
    obtain ⟨s, a1, a2, a3⟩ := open_argR hbk hG hg.1 (hval 0 t v rfl rfl) h1
    obtain ⟨svs, b1, b2, b3, b4⟩ := open_argsR hbk hG hg.2 h2 fun j t v x y => hval (j + 1) t v (by simpa using x) (by simpa using y)
    refine ⟨s :: svs, ⟨s, svs, rfl, a1, b1⟩, by simp [b2], fun j s' v' hs hv => ?_, by rw [hbk.cons]; simp only [List.map_cons, List.sum_cons]; omega⟩
    cases j with
    | zero =>
      obtain rfl := Option.some.inj hs
      obtain rfl := Option.some.inj hv
      exact a2
    | succ j => exact b3 j s' v' (by simpa using hs) (by simpa using hv)
  | [], _ :: _, _, _, _, h, _ => h.elim
  | [], [], _ :: _, _, _, h, _ => h.elim
  | _ :: _, [], _, _, _, h, _ => h.elim
  | _ :: _, _ :: _, [], _, _, h, _ => h.elim
end
end Go.Pw
namespace Go.Pw
open Go Go.RowKit Go.ChangeShapes
section
variable {H : Type} {enc : TypeId × Value → H} {P : Program}
def rowed (P : Program) (ts : List TypeId) : Bool := ts.all fun t => P.readableRec t && decide (t < P.types.size)
theorem trodAll_below (hl : laidOutB P = true) {W W' : World} (hb : Below W.heap.size W W') : ∀ {ts : List TypeId} {vs : List Value} {ds : List (DataW H)} {ps : List MemPlace}, rowed P ts = true →
    DataW.TrodAll enc P W 0 (fun _ => true) true ts vs ds ps → (∀ x ∈ ps, x.block < W.heap.size) → DataW.TrodAll enc P W' 0 (fun b => decide (b < W.heap.size)) true ts vs ds ps
  | [], [], [], _, _, h, _ => h
  | t :: ts, v :: vs, d :: ds, ps, hr, h, hlt => by
    simp only [rowed, List.all_cons, Bool.and_eq_true, decide_eq_true_eq] at hr
    obtain ⟨p, q, h1, h2, rfl⟩ := h
    exact ⟨p, q, Below.trod hl hr.1.1 hr.1.2 h1 hb.toBelow (fun x hx => hlt x (by simp [hx])), trodAll_below hl hb (by simpa [rowed] using hr.2) h2 (fun x hx => hlt x (by simp [hx])), rfl⟩
  | [], _ :: _, _, _, _, h, _ => h.elim
  | [], [], _ :: _, _, _, h, _ => h.elim
  | _ :: _, [], _, _, _, h, _ => h.elim
  | _ :: _, _ :: _, [], _, _, h, _ => h.elim
theorem law_post {fn : Func} {S : ChangeSpec} {tb : TypeId} {fresh handsOn : Bool} {W W' : World} {args : Array Value} {ds gs : List (DataW H)} {before : List MemPlace} (hl : laidOutB P = true) (hp : rowed P fn.params.toList = true) (hv : varsRowed P S.vars = true)
    (hres : fn.resultTypes = #[tb]) (htb : P.underlying tb = some .bool) (hW : DataW.Whole enc P fn.params.toList S.vars false W args.toList ds gs before)
    (hS : S.fn H (ds ++ gs) = { results := [.lit (.bool true)], args := ds, vars := gs }) (hb : Below W.heap.size W W') : S.post enc P fn false fresh handsOn false W args (.bool true) W' := by
  have hlt := hW.lt
  obtain ⟨p, q, hA, hV, rfl, _, _⟩ := hW
  refine ⟨ds, gs, p ++ q, [], p, q, ⟨p, q, hA, hV, rfl, by assumption, by assumption⟩, ?_, ?_, ?_, ?_, fun h => by cases h⟩
  · rw [hres, hS]
    exact trodAll_mk1 (shut_bool htb _)
  · rw [hS]
    exact trodAll_below hl hb hp hA (fun x hx => hlt x (by simp [hx]))
  · rw [hS]
    exact Below.trodVars hl hb.toBelow hv hV
  · exact hb.frame _
theorem law_contractR {G : TypeId → Bool} (hG : ∀ t, G t = true → tyOne P G t = true) {bk : DataW H → Nat} {bks : List (DataW H) → Nat} (hbk : BulkLaw bk bks) {f : FuncId} {fn : Func} {S : ChangeSpec} {tb : TypeId} {fresh handsOn : Bool} {W : World} {base : Nat} {args : Array Value} {ds gs : List (DataW H)} {before : List MemPlace}
    (hl : laidOutB P = true) (hp : rowed P fn.params.toList = true) (hg : fn.params.toList.all (argGoodR P G) = true) (hv : varsRowed P S.vars = true) (hres : fn.resultTypes = #[tb]) (htb : P.underlying tb = some .bool)
    (hval : ∀ (j : Nat) t v, fn.params[j]? = some t → args[j]? = some v → Value.okWide P W .any base t v)
    (hW : DataW.Whole enc P fn.params.toList S.vars false W args.toList ds gs before)
    (hS : ds.length = fn.params.size → gs.length = S.vars.length → S.fn H (ds ++ gs) = { results := [.lit (.bool true)], args := ds, vars := gs })
    (walk : ∀ svs, ArgsOKR P fn.params.toList svs → (svs.map svW).sum ≤ bks ds → PFun P W f svs (.sv (.one (pbool true)))) :
    Calls P f args W fun e W' => ∃ v, e = .returned v ∧ S.post enc P fn false fresh handsOn false W args v W' := by
  have hW0 := hW
  obtain ⟨p, q, hA, hV, rfl, _, _⟩ := hW
  obtain ⟨svs, a1, a2, a3, a4⟩ := open_argsR hbk hG hg hA fun j t v h1 h2 => hval j t v (by simpa using h1) (by simpa using h2)
  have hd : ds.length = fn.params.size := by
    have : ∀ {ts : List TypeId} {vs : List Value} {ds : List (DataW H)} {ps : List MemPlace}, DataW.TrodAll enc P W 0 (fun _ => true) true ts vs ds ps → ds.length = ts.length := by
      intro ts
      induction ts with
      | nil => intro vs ds ps h; cases vs <;> cases ds <;> first | rfl | exact h.elim
      | cons t ts ih => intro vs ds ps h; cases vs <;> cases ds <;> first | exact h.elim | (obtain ⟨_, _, _, h2, _⟩ := h; simp [ih h2])
    simpa using this hA
  have hgl : gs.length = S.vars.length := by
    have : ∀ {ns : List String} {ds : List (DataW H)} {ps : List MemPlace}, DataW.TrodVars enc P W (fun _ => true) ns ds ps → ds.length = ns.length := by
      intro ns
      induction ns with
      | nil => intro ds ps h; cases ds <;> first | rfl | exact h.elim
      | cons t ts ih => intro ds ps h; cases ds <;> first | exact h.elim | (obtain ⟨_, _, _, _, _, _, _, _, _, _, h2, _⟩ := h; simp [ih h2])
    exact this hV
  have := law_calls (walk svs a1 a4) a2 a3
  rw [show args.toList.toArray = args from by simp] at this
  refine this.mono ?_
  rintro e W' ⟨rfl, hb⟩
  exact ⟨_, rfl, law_post hl hp hv hres htb hW0 (hS hd hgl) hb⟩
theorem map_of_all {α : Type} {β : Type} {f : β → α} {Q : β → Prop} : ∀ (xs : List α), (∀ x ∈ xs, ∃ y, x = f y ∧ Q y) → ∃ ys : List β, xs = ys.map f ∧ ∀ y ∈ ys, Q y
  | [], _ => ⟨[], rfl, by simp⟩
  | x :: xs, h => by
    obtain ⟨y, rfl, hq⟩ := h x (by simp)
    obtain ⟨ys, rfl, hqs⟩ := map_of_all xs fun z hz => h z (by simp [hz])
    exact ⟨y :: ys, rfl, by simpa using ⟨hq, hqs⟩⟩
end
end Go.Pw
