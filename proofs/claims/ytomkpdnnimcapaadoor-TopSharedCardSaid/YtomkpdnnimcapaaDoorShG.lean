import Derived.Test.YtomkpdnnimcapaaDoorShD
import Derived.Test.YtomkpdnnimcapaaDoorShE
import Derived.Test.YtomkpdnnimcapaaDoorShF
import Derived.Test.YtomkpdnnimcapaaDoorPwV
namespace Go.Pw
open Go Go.RowKit Go.Proofs
set_option maxRecDepth 100000
set_option linter.unusedSimpArgs false
set_option linter.unusedVariables false

theorem PFun.borrow {P : Program} {W0 : World} {f : FuncId} {args args' : List SV} {r : Slot} (H : ∀ W, PFun P W f args' r) (hc : ∀ {w w' : World} {h h' : Hp} {m m' : Loc} {v : Value}, LR w h m r v → LR w' h' m' r v) (h : Hp) (hl : args.length = args'.length)
    (hs : ∀ w m, HR W0 w h m → ∀ (j : Nat) (s s' : SV) (v : Value), args[j]? = some s → args'[j]? = some s' → SVR w h m s v → SVR w nil0 loc0 s' v) : PCalls P W0 f args h (fun r' h' => r' = r ∧ Same h h') := by
  refine ⟨(H W0 nil0).1, fun w m vs R hl2 hv => ?_⟩
  refine ((H w nil0).2 w loc0 vs (hr_start w) (hl2.trans hl) fun j s' v h1 h2 => ?_).mono ?_
  · have hj : j < args.length := by rw [hl]; exact (List.getElem?_eq_some_iff.1 h1).1
    exact hs w m R j args[j] s' v (List.getElem?_eq_getElem hj) h1 (hv j _ v (List.getElem?_eq_getElem hj) h2)
  · rintro e w' ⟨v, r', h', m', rfl, ⟨rfl, _⟩, hr, hR, _⟩
    exact ⟨v, _, h, m, rfl, ⟨rfl, .refl _⟩, hc hr, R.grow hR.below, Ext.grow hR.below⟩
theorem lr_val {b : Value} {w w' : World} {h h' : Hp} {m m' : Loc} {v : Value} (H : LR w h m (.sv (.one (.val b))) v) : LR w' h' m' (.sv (.one (.val b))) v := by
  cases H with
  | val _ h1 => exact .val _ h1
theorem lr_val2 {a b : Value} {w w' : World} {h h' : Hp} {m m' : Loc} {v : Value} (H : LR w h m (.tup [.one (.val a), .one (.val b)]) v) : LR w' h' m' (.tup [.one (.val a), .one (.val b)]) v := by
  obtain ⟨vs, e, hl, hv⟩ := H
  refine ⟨vs, e, hl, fun j s u h1 h2 => ?_⟩
  have := hv j s u h1 h2
  match j, h1 with
  | 0, h1 =>
    obtain rfl := Option.some.inj h1
    cases this with
    | val _ h3 => exact .val _ h3
  | 1, h1 =>
    obtain rfl := Option.some.inj h1
    cases this with
    | val _ h3 => exact .val _ h3
theorem ro_closed {w : World} {h : Hp} {m : Loc} {sz : Nat} {xs : List (List PV)} {v : Value} (H : VR w h m (.ro false sz xs) v) (hx : ∀ es ∈ xs, ∀ q ∈ es, ∃ u : Value, q = .val u) : VR w nil0 loc0 (.ro false sz xs) v := by
  cases H with
  | ro0 _ _ a c hc => exact .ro0 _ _ _ _ hc
  | ro _ _ _ g off c n vs hn hc hnc hg hav hlen hcell hvs =>
    refine .ro _ _ _ g off c n vs hn hc hnc hg (fun _ _ hb => by cases hb) hlen hcell fun i es j p h1 h2 => ?_
    obtain ⟨u, rfl⟩ := hx es (List.mem_of_getElem? h1) p (List.mem_of_getElem? h2)
    have := hvs i es j _ h1 h2
    generalize vs i j = q at this
    cases this with
    | val _ h3 => exact .val _ h3
theorem sh_vals (S : List (UInt8 × List UInt8)) : ∀ es ∈ S.map shPV, ∀ q ∈ es, ∃ u : Value, q = .val u := by
  intro es hes q hq
  obtain ⟨x, _, rfl⟩ := List.mem_map.1 hes
  simp only [shPV, List.mem_cons, List.not_mem_nil, or_false] at hq
  rcases hq with rfl | rfl <;> exact ⟨_, rfl⟩
theorem own_sh {W0 w : World} {h h0 : Hp} {m : Loc} {p : PV} {S : List (UInt8 × List UInt8)} {v : Value} (hb0 : hpOk h0) (K : Keeps h0 h) (O : RowIs 30 2 h0 h (.sv (.one p)) (S.map shPV)) (R : HR W0 w h m) (H : SVR w h m (.one p) v) : SVR w nil0 loc0 (.one (.ro false 2 (S.map shPV))) v := by
  obtain ⟨h', _, _, hx⟩ := row_slot (W0 := W0) O hb0 K
  exact ro_closed (hx w m R v H) (sh_vals S)
theorem contains_own (W0 : World) {h0 hp : Hp} {p : PV} {S : List (UInt8 × List UInt8)} (y : UInt8 × List UInt8) (hb0 : hpOk h0) (K : Keeps h0 hp) (O : RowIs 30 2 h0 hp (.sv (.one p)) (S.map shPV)) (hS : S.length ≤ 255) :
    PCalls Tryd.prog W0 6 [.one p, .agg (shPV y)] hp (fun r h' => r = .sv (.one (pbool (S.contains y))) ∧ Same hp h') := by
  refine PFun.borrow (args' := [.one (.ro false 2 (S.map shPV)), .agg (shPV y)]) (fun W => containsSh_fun W false S y hS) lr_val hp rfl fun w m R j s s' v h1 h2 H => ?_
  match j, h1, h2 with
  | 0, h1, h2 => obtain rfl := Option.some.inj h1; obtain rfl := Option.some.inj h2; exact own_sh hb0 K O R H
  | 1, h1, h2 =>
    obtain rfl := Option.some.inj h1
    obtain rfl := Option.some.inj h2
    obtain ⟨vs, e, hl, hv⟩ := H
    refine ⟨vs, e, hl, fun i q u g1 g2 => ?_⟩
    have := hv i q u g1 g2
    obtain ⟨b, rfl⟩ : ∃ b : Value, q = .val b := sh_vals [y] _ (by simp) q (List.mem_of_getElem? g1)
    cases this with
    | val _ h3 => exact .val _ h3
theorem secret_own (W0 : World) {h0 hp : Hp} {p : PV} {S : List (UInt8 × List UInt8)} {n m : Nat} (hb0 : hpOk h0) (K : Keeps h0 hp) (O : RowIs 30 2 h0 hp (.sv (.one p)) (S.map shPV)) (hn : S.length = n) (hS : S.length ≤ 255) (hS0 : 0 < S.length) (hm : ∀ s ∈ S, s.2.length = m) (hm0 : 0 < m) (hm1 : m ≤ 1024) (hd : (xsOf S).Nodup) (hz : ∀ s ∈ S, s.1 ≠ 0) :
    PCalls Tryd.prog W0 7 [.one p, .one (pint (n : Nat))] hp (fun r h' => r = .tup [.one (pstr (valL 0 S m)), .one (pint 0)] ∧ Same hp h') := by
  subst hn
  refine PFun.borrow (args' := [.one (.ro false 2 (S.map shPV)), .one (pint (S.length : Nat))]) (fun W => secret_fun W false S m hS hS0 hm hm0 hm1 hd hz) lr_val2 hp rfl fun w q R j s s' v h1 h2 H => ?_
  match j, h1, h2 with
  | 0, h1, h2 => obtain rfl := Option.some.inj h1; obtain rfl := Option.some.inj h2; exact own_sh hb0 K O R H
  | 1, h1, h2 => obtain rfl := Option.some.inj h1; obtain rfl := Option.some.inj h2; exact lr_val (w := w) (h := hp) (m := q) H
theorem evp_poly : ∀ cs : List UInt8, Gf.IsPoly cs.length (evp cs)
  | [] => fun _ => rfl
  | c :: cs => ⟨c, evp cs, evp_poly cs, fun z => by rw [evp, Gf.gm_comm, UInt8.xor_comm]⟩
theorem evp_zero (c : UInt8) (cs : List UInt8) : evp (c :: cs) 0 = c := by rw [evp, Gf.gm_0r, Gf.x0l]
section
variable {sec nb : List UInt8} {need many : Nat}
theorem shU_at {s : UInt8 × List UInt8} (h : s ∈ shU sec nb need many) : ∃ k, k < many ∧ s = shareK sec nb need k := by
  obtain ⟨k, hk, rfl⟩ := List.mem_map.1 h
  exact ⟨k, List.mem_range.1 hk, rfl⟩
theorem shU_len : (shU sec nb need many).length = many := by rw [shU, List.length_map, List.length_range]
theorem ofNat_inj {a b : Nat} (ha : a < 256) (hb : b < 256) (h : UInt8.ofNat a = UInt8.ofNat b) : a = b := by
  have := congrArg UInt8.toNat h
  rwa [UInt8.toNat_ofNat', UInt8.toNat_ofNat', Nat.mod_eq_of_lt ha, Nat.mod_eq_of_lt hb] at this
theorem shU_fst (hm : many ≤ 20) {s t : UInt8 × List UInt8} (hs : s ∈ shU sec nb need many) (ht : t ∈ shU sec nb need many) (h : s.1 = t.1) : s = t := by
  obtain ⟨k, hk, rfl⟩ := shU_at hs
  obtain ⟨q, hq, rfl⟩ := shU_at ht
  have := ofNat_inj (a := k + 1) (b := q + 1) (by omega) (by omega) h
  obtain rfl : k = q := by omega
  rfl
theorem shU_ne (hm : many ≤ 20) {s : UInt8 × List UInt8} (hs : s ∈ shU sec nb need many) : s.1 ≠ 0 := by
  obtain ⟨k, hk, rfl⟩ := shU_at hs
  intro e
  have := ofNat_inj (a := k + 1) (b := 0) (by omega) (by omega) e
  omega
theorem shU_data {s : UInt8 × List UInt8} (hs : s ∈ shU sec nb need many) : s.2 = ptsV sec nb need s.1 := by
  obtain ⟨k, hk, rfl⟩ := shU_at hs
  rfl
theorem pts_len (x : UInt8) : (ptsV sec nb need x).length = sec.length := by rw [ptsV, List.length_map, List.length_range]
theorem xs_nodup (hm : many ≤ 20) {S : List (UInt8 × List UInt8)} (hS : ∀ s ∈ S, s ∈ shU sec nb need many) (hd : S.Nodup) : (xsOf S).Nodup := by
  unfold List.Nodup
  rw [List.pairwise_map]
  exact hd.imp_of_mem fun {a b} ha hb hab e => hab (shU_fst hm (hS a ha) (hS b hb) e)
theorem shU_nodup (hm : many ≤ 20) : (shU sec nb need many).Nodup := by
  unfold List.Nodup shU
  rw [List.pairwise_map]
  refine List.nodup_range.imp_of_mem fun {a b} ha hb hab e => hab ?_
  have e1 : UInt8.ofNat (a + 1) = UInt8.ofNat (b + 1) := congrArg Prod.fst e
  have := ofNat_inj (by have := List.mem_range.1 ha; omega) (by have := List.mem_range.1 hb; omega) e1
  omega
theorem secret_val (hn : nb.length = sec.length * (need - 1)) (h1 : 1 ≤ need) (hm : many ≤ 20) {S : List (UInt8 × List UInt8)} (hS : ∀ s ∈ S, s ∈ shU sec nb need many) (hd : S.Nodup) (hl : S.length = need) : valL 0 S sec.length = sec := by
  apply List.ext_getElem?
  intro j
  rcases Nat.lt_or_ge j sec.length with hj | hj
  · rw [valL, List.getElem?_map, List.getElem?_range hj, Option.map_some]
    have e : sumP 0 (xsOf S) S j = Gf.sumX ((xsOf S).map fun x => Gf.gm (Gf.wt 0 x (xsOf S)) (polyV sec nb need x j)) := by
      unfold sumP
      rw [List.map_map]
      refine Gf.sum_congr fun s hs => ?_
      simp only [Function.comp_def]
      rw [shU_data (hS s hs), List.getD_eq_getElem?_getD, ptsV, List.getElem?_map, List.getElem?_range hj]
      rfl
    have hp : Gf.IsPoly (xsOf S).length fun x => polyV sec nb need x j := by
      have := evp_poly (sec.getD j 0 :: nj nb need j)
      rw [List.length_cons, nj_len hn hj] at this
      rw [List.length_map, hl, show need = need - 1 + 1 by omega]
      exact this
    rw [e, Gf.interp 0 (xsOf S) (fun x => polyV sec nb need x j) (xs_nodup hm hS hd) hp, polyV, evp_zero, List.getD_eq_getElem?_getD, List.getElem?_eq_getElem hj]
    rfl
  · rw [List.getElem?_eq_none hj, List.getElem?_eq_none (by rw [valL, List.length_map, List.length_range]; exact hj)]
end
theorem nodup_le {α : Type} [DecidableEq α] : ∀ {a b : List α}, a.Nodup → (∀ x ∈ a, x ∈ b) → a.length ≤ b.length
  | [], _, _, _ => Nat.zero_le _
  | x :: a, b, hd, hs => by
    obtain ⟨h1, h2⟩ := List.nodup_cons.1 hd
    have hx := hs x (by simp)
    have := nodup_le (b := b.erase x) h2 fun y hy => (List.mem_erase_of_ne (by rintro rfl; exact h1 hy)).2 (hs y (by simp [hy]))
    rw [List.length_erase_of_mem hx] at this
    have : 0 < b.length := List.length_pos_of_mem hx
    simp only [List.length_cons]
    omega
/-- The first value that a further share's value u gives. -/
def firstV (T : List (UInt8 × List UInt8)) (x u : UInt8) (tl : List UInt8) (m : Nat) : UInt8 := (valL 0 (T ++ [(x, u :: tl)]) m).getD 0 0
theorem first_at (T : List (UInt8 × List UInt8)) (x u : UInt8) (tl : List UInt8) {m : Nat} (hm : 0 < m) : (valL 0 (T ++ [(x, u :: tl)]) m)[0]? = some (firstV T x u tl m) := by
  unfold firstV
  rw [List.getD_eq_getElem?_getD]
  have : 0 < (valL 0 (T ++ [(x, u :: tl)]) m).length := by rw [valL, List.length_map, List.length_range]; exact hm
  rw [List.getElem?_eq_getElem this]; rfl
theorem first_eq (T : List (UInt8 × List UInt8)) (x u : UInt8) (tl : List UInt8) {m : Nat} (hm : 0 < m) : firstV T x u tl m = sumP 0 (xsOf T ++ [x]) T 0 ^^^ Gf.gm (Gf.wt 0 x (xsOf T ++ [x])) u := by
  have h := first_at T x u tl hm
  rw [valL, List.getElem?_map, List.getElem?_range hm, Option.map_some] at h
  rw [← Option.some.inj h]
  unfold sumP
  simp only [xsOf, List.map_append, List.map_cons, List.map_nil, sumX_snoc]
  rfl
theorem first_inj {T : List (UInt8 × List UInt8)} {x u v : UInt8} {tl : List UInt8} {m : Nat} (hm : 0 < m) (hz : ∀ k ∈ xsOf T ++ [x], k ≠ 0) (h : firstV T x u tl m = firstV T x v tl m) : u = v := by
  rw [first_eq T x u tl hm, first_eq T x v tl hm] at h
  exact Gf.gm_inj (Gf.wt_ne 0 x _ hz) (Gf.xor_inj h)
end Go.Pw
