import Derived.Test.YtomkpdnnimcapaaDoorPwM
import Derived.Lib.OthersKept
/-
  PW, part Y: a loop over a text's runes.
-/
namespace Go.Pw
open Go Go.RowKit

section
variable {P : Program} {W0 : World} {n : Nat} {K : Exit → St → Prop} {σ : St} {ops : Array Oper}

/-- As 'pops_ok', with a rest behind. -/
theorem pops_ok_app {N : St → Prop} {we : World} {he : Hp} {me : Loc} {Q : Exit → Act → World → Prop} {r : List Oper} : ∀ (l : List Oper) (σ : St) (a : Act) (w : World) (m : Loc), Rel W0 we he me n σ a w m → pops P W0 n ops N l σ →
    (∀ σ a w m, N σ → Rel W0 we he me n σ a w m → wpList P ops Q r a w) → wpList P ops Q (l ++ r) a w
  | [], σ, a, w, m, R, H, hq => by
    obtain ⟨σ', k, H⟩ := H
    exact hq σ' a w m H (R.wk k)
  | o :: rest, σ0, a, w, m, R0, H, hq => by
    obtain ⟨σ, k, hd, H⟩ := H
    have R := R0.wk k
    have yes : pop P W0 σ o (fun r h => pops P W0 n ops N rest (St.put ⟨σ.env, h⟩ o.dst r)) → Region.wanted o (yielded ops a.tmps) = true → wpList P ops Q (o :: rest ++ r) a w := by
      intro hk hw
      refine wpList_step fun K hK => ?_
      rw [if_pos hw]
      refine (pop_ok R hk).wp ?_
      rintro v w' ⟨r', h', m', h1, h2, h3, h4⟩
      exact hK _ _ (pops_ok_app rest _ _ _ _ (R.step h3 h4 h2 hd) h1 hq)
    have no : pops P W0 n ops N rest (σ.put o.dst (.tup [])) → Region.wanted o (yielded ops a.tmps) = false → wpList P ops Q (o :: rest ++ r) a w := by
      intro hk hw
      refine wpList_step fun K hK => ?_
      rw [if_neg (by simp [hw])]
      exact hK _ _ (pops_ok_app rest _ _ _ _ (R.step (h' := σ.hp) R.hr (Ext.refl _ _ _) (LR.undef _ _ _) hd) hk hq)
    cases hv : wantV ops σ.env o with
    | none =>
      unfold wantP at H
      unfold wantV at hv
      split at H
      · rename_i hg; simp [hg] at hv
      · rename_i j want hg
        rw [hg] at hv
        simp only at hv
        split at H
        · rename_i hn; simp [hn] at hv
        · rename_i d hs
          rw [hs] at hv
          simp only at hv
          split at H
          · rename_i b e; simp [e] at hv
          · rename_i e; simp [e] at hv
          · exact H.elim
    | some b =>
      have hw := wanted_of R hv
      have key : wantP ops σ o (pop P W0 σ o fun r h => pops P W0 n ops N rest (St.put ⟨σ.env, h⟩ o.dst r)) (pops P W0 n ops N rest (σ.put o.dst (.tup []))) →
          (b = true → pop P W0 σ o fun r h => pops P W0 n ops N rest (St.put ⟨σ.env, h⟩ o.dst r)) ∧ (b = false → pops P W0 n ops N rest (σ.put o.dst (.tup []))) := by
        intro H
        unfold wantP at H
        unfold wantV at hv
        split at H
        · rename_i hg
          simp only [hg, Option.some.injEq] at hv
          subst hv
          exact ⟨fun _ => H, fun h => by cases h⟩
        · rename_i j want hg
          rw [hg] at hv
          simp only at hv
          split at H
          · rename_i hn
            simp only [hn, Option.some.injEq] at hv
            subst hv
            exact ⟨fun h => (by cases h), fun _ => H⟩
          · rename_i d hs
            rw [hs] at hv
            simp only at hv
            split at H
            · rename_i c e
              simp only [e, Option.some.injEq] at hv
              subst hv
              exact ⟨fun h => H.1 (by simpa using h), fun h => H.2 (by simpa using h)⟩
            · rename_i e
              simp only [e, Option.some.injEq] at hv
              subst hv
              exact ⟨fun h => (by cases h), fun _ => H⟩
            · exact H.elim
      have H' := key H
      cases b with
      | true => exact yes (H'.1 rfl) hw
      | false => exact no (H'.2 rfl) hw

/-- Values, where an iterator moved on. -/
theorem VR.iterAt {w : World} {h : Hp} {m : Loc} {k pos pos' : Nat} {s : ByteArray} (hk : w.heap[k]? = some (.stringIter s pos)) {p : PV} {v : Value} (H : VR w h m p v) : VR (w.iterAt k s pos') h m p v := by
  have hcell : ∀ {a : Addr} {v : Value}, w.cell? a = some v → (w.iterAt k s pos').cell? a = some v := by
    intro a v hc
    unfold World.cell? at hc ⊢
    by_cases e : a.block = k
    · rw [e, hk] at hc; simp at hc
    · rw [Lib.iterAt_other _ _ _ _ _ e]; exact hc
  induction H with
  | val v h1 => exact .val v h1
  | any v h1 => exact .any v h1
  | ro0 full sz a c hc => exact .ro0 full sz a c hc
  | ro full sz xs g off c n vs hn hc hnc hg hav hlen hcell' hvs ih =>
    exact .ro full sz xs g off c n vs hn hc hnc (by rw [Lib.iterAt_size]; exact hg) hav hlen (fun i es j p a b => hcell (hcell' i es j p a b)) (fun i es j p a b => ih i es j p a b)
  | rop cs g off vs hg hav hcell' hvs ih => exact .rop cs g off vs (by rw [Lib.iterAt_size]; exact hg) hav (fun j p a => hcell (hcell' j p a)) (fun j p a => ih j p a)
  | own id ver off len ad c hid hv hb => exact .own id ver off len ad c hid hv hb
  | ptr id ver i o ad hid hv hb => exact .ptr id ver i o ad hid hv hb
  | clo fn caps vs hl hvs ih => exact .clo fn caps vs hl fun j p v a b => ih j p v a b
  | ifc1 t p v hv ih => exact .ifc1 t p v ih
  | ifcA t ps vs hl hvs ih => exact .ifcA t ps vs hl fun j p v a b => ih j p v a b
  | ifn t v => exact .ifn t v
  | mp es g c ents hg hav hh he => exact .mp es g c ents (by rw [Lib.iterAt_size]; exact hg) hav (by rw [Lib.iterAt_other _ _ _ _ _ (fun e => by rw [e, hk] at hh; cases hh)]; exact hh) he

theorem SVR.iterAt {w : World} {h : Hp} {m : Loc} {k pos pos' : Nat} {s : ByteArray} (hk : w.heap[k]? = some (.stringIter s pos)) {p : SV} {v : Value} (H : SVR w h m p v) : SVR (w.iterAt k s pos') h m p v := by
  cases p with
  | one p => exact VR.iterAt hk H
  | agg ps => obtain ⟨vs, a, b, c⟩ := H; exact ⟨vs, a, b, fun j p u x y => VR.iterAt hk (c j p u x y)⟩

theorem LR.iterAt {w : World} {h : Hp} {m : Loc} {k pos pos' : Nat} {s : ByteArray} (hk : w.heap[k]? = some (.stringIter s pos)) {p : Slot} {v : Value} (H : LR w h m p v) : LR (w.iterAt k s pos') h m p v := by
  cases p with
  | sv p => exact SVR.iterAt hk H
  | tup ps => obtain ⟨vs, a, b, c⟩ := H; exact ⟨vs, a, b, fun j p u x y => SVR.iterAt hk (c j p u x y)⟩
  | any => trivial

theorem Rel.iterAt {we w : World} {he : Hp} {me m : Loc} {a : Act} {k pos pos' : Nat} {s : ByteArray} (R : Rel W0 we he me n σ a w m) (hk : w.heap[k]? = some (.stringIter s pos)) (hwe : we.heap.size ≤ k) (hW0 : W0.heap.size ≤ k)
    (hav : ∀ id b, σ.hp.blk id = some b → (m id).1 ≠ k) : Rel W0 we he me n σ a (w.iterAt k s pos') m := by
  refine ⟨⟨⟨Lib.below_iterAt R.hr.below.toBelow hW0 _ _, R.hr.below.drawn⟩, R.hr.bound, R.hr.far, fun id b hb => ?_, R.hr.inj⟩, ⟨?_, R.ext.lim, fun g hg hav' => ?_, R.ext.keep⟩, R.size, R.defers, fun i => LR.iterAt hk (R.env i)⟩
  · obtain ⟨h0, cur, fr, h1, h2, h3, h4, h5, h6, h7⟩ := R.hr.live id b hb
    refine ⟨h0, cur, fr, by rw [Lib.iterAt_other _ _ _ _ _ (hav id b hb)]; exact h1, h2, h3, h4, h5, h6, fun i es hi => ⟨(h7 i es hi).1, fun j p hj => ?_⟩⟩
    obtain ⟨v, hv, hr⟩ := (h7 i es hi).2 j p hj
    exact ⟨v, hv, VR.iterAt hk hr⟩
  · rw [Lib.iterAt_size]; exact R.ext.size
  · obtain ⟨a1, a2⟩ := R.ext.ro g hg hav'
    exact ⟨by rw [Lib.iterAt_other _ _ _ _ _ (by omega)]; exact a1, a2⟩

theorem utf8_width (s : ByteArray) (pos : Nat) : 1 ≤ (Utf8.decode s pos).2 := by
  unfold Utf8.decode
  dsimp only
  repeat' split
  all_goals (first | exact Nat.le_refl _ | exact Nat.le_of_ble_eq_true rfl)

/-- The bytes of a rune that begins with a high byte are high. -/
theorem decode_span (s : ByteArray) (pos : Nat) (h : pos < s.size) (hb : 128 ≤ (s.get! pos).toNat) : ∀ k, k < (Utf8.decode s pos).2 → pos + k < s.size ∧ 128 ≤ (s.get! (pos + k)).toNat := by
  have key : ∀ k, (decide (pos + k < s.size) && (s.get! (pos + k)).toNat / 64 == 2) = true → pos + k < s.size ∧ 128 ≤ (s.get! (pos + k)).toNat := fun k hk => by
    simp only [Bool.and_eq_true, decide_eq_true_eq, beq_iff_eq] at hk
    exact ⟨hk.1, by omega⟩
  have k0 : ∀ k, k < 1 → pos + k < s.size ∧ 128 ≤ (s.get! (pos + k)).toNat := fun k hk => by
    obtain rfl : k = 0 := by omega
    exact ⟨h, hb⟩
  unfold Utf8.decode
  dsimp only
  split
  · exact k0
  split
  · rename_i hc
    rw [Bool.and_eq_true] at hc
    split
    · intro k hk
      obtain h0 | rfl : k < 1 ∨ k = 1 := by simp only at hk; omega
      · exact k0 k h0
      · exact key 1 hc.2
    · exact k0
  split
  · rename_i hc
    simp only [Bool.and_eq_true (_ && _) _] at hc
    split
    · intro k hk
      obtain h0 | rfl | rfl : k < 1 ∨ k = 1 ∨ k = 2 := by simp only at hk; omega
      · exact k0 k h0
      · exact key 1 (by have := hc.1; simp only [Bool.and_eq_true] at this ⊢; exact this.2)
      · exact key 2 hc.2
    · exact k0
  split
  · rename_i hc
    simp only [Bool.and_eq_true (_ && _) _] at hc
    split
    · intro k hk
      obtain h0 | rfl | rfl | rfl : k < 1 ∨ k = 1 ∨ k = 2 ∨ k = 3 := by simp only at hk; omega
      · exact k0 k h0
      · exact key 1 (by have := hc.1; simp only [Bool.and_eq_true] at this ⊢; exact this.1.2)
      · exact key 2 (by have := hc.1; simp only [Bool.and_eq_true] at this ⊢; exact this.2)
      · exact key 3 hc.2
    · exact k0
  · exact k0

abbrev itAt (k : Nat) : Slot := .sv (.one (.val (.pointer (some ⟨k, 0, none⟩))))

/-- A loop over a text's runes: 'I': what holds at each round's head; 'pos': how far the loop has come. -/
theorem pwp_range_str {rid b r t d d1 : Nat} {l : List Oper} {x : Operand} {ty ty0 ty1 ty2 : TypeId} {pos0 pos1 pos2 : String} {af0 af1 af2 : Array Edge} {rest : Code}
    (ht : decide (t < n) = true) (hd : decide (d < n) = true) (hd1 : decide (d1 < n) = true) (hne : decide (d1 ≠ d) = true) (hty : P.underlying ty = some .string)
    (H : pops P W0 n (l ++ [(⟨some t, .range ty x, ty0, pos0, af0, none⟩ : Oper)]).toArray (fun σ1 => ∃ s : ByteArray, σ1.eval x = .sv (.one (.val (.string s))) ∧ ∀ k, ∃ I : Nat → St → Prop,
      (∃ σ2, Wk W0 (σ1.put (some t) (itAt k)) σ2 ∧ σ2.env t = itAt k ∧ I 0 σ2) ∧ ∀ (pos : Nat) (e : Nat → Slot) (hp : Hp), e t = itAt k → I pos ⟨e, hp⟩ →
        (pos < s.size → PWP P W0 n rest (thenK (fun σ3 => ∃ σ4, Wk W0 σ3 σ4 ∧ σ4.env t = itAt k ∧ I (pos + (Utf8.decode s pos).2) σ4) (blockK b K))
          ⟨upd (upd e d (.tup [.one (.val (.bool true)), .one (.val (.int .i64 pos)), .one (.val (.int .i32 (Utf8.decode s pos).1))])) d1 (.sv (.one (.val (.bool true)))), hp⟩) ∧
        (¬ pos < s.size → PWP P W0 n rest (thenK (fun _ => False) (blockK b K)) ⟨upd (upd e d (.tup [.one (.val (.bool false))])) d1 (.sv (.one (.val (.bool false)))), hp⟩)) l σ) :
    PWP P W0 n (.seq (.region rid (l ++ [(⟨some t, .range ty x, ty0, pos0, af0, none⟩ : Oper)]).toArray false) (.block b (.loop (.seq (.region r #[⟨some d, .next (.tmp t) true, ty1, pos1, af1, none⟩, ⟨some d1, .extract (.tmp d) 0, ty2, pos2, af2, none⟩] false) rest)))) K σ := by
  intro we he me a w m R
  have ht' : t < n := of_decide_eq_true ht
  have hd' : d < n := of_decide_eq_true hd
  have hd1' : d1 < n := of_decide_eq_true hd1
  have hne' : d1 ≠ d := of_decide_eq_true hne
  refine wp_seq (wp_region_lit (pops_ok_app l σ a w m R H ?_))
  rintro σ1 a1 w1 m1 ⟨s, hx, hI⟩ R1
  have hv : a1.eval x = .string s := by
    have := R1.eval x
    rw [hx] at this
    generalize a1.eval x = q at this ⊢
    cases this
    rfl
  -- the iterator is made
  refine wpList_step fun K0 hK0 => ?_
  rw [if_pos (by simp [Region.wanted])]
  have hrun : Runs P ⟨some t, .range ty x, ty0, pos0, af0, none⟩ a1.eval w1 (fun v w' => v = .pointer (some ⟨w1.heap.size, 0, none⟩) ∧ w' = w1.iter s 0) :=
    Runs.value (by simp only [execOp, hv, Sem.run_bind, run_range_string w1 ty s hty, Result.andThen_ok, Sem.run_pure]) ⟨rfl, rfl⟩
  refine hrun.wp ?_
  rintro v w2 ⟨rfl, rfl⟩
  refine hK0 _ _ ?_
  obtain ⟨I, ⟨σ2, hwk, hit, hI0⟩, hround⟩ := hI w1.heap.size
  have hB : Below w1.heap.size w1 (w1.iter s 0) := below_alloc w1 _
  have R2 : Rel W0 we he me n (σ1.put (some t) (itAt w1.heap.size)) (a1.put (some t) (.pointer (some ⟨w1.heap.size, 0, none⟩))) (w1.iter s 0) m1 :=
    R1.step (h' := σ1.hp) (R1.hr.grow hB) (Ext.grow hB) (.val _ rfl) ht
  have R3 := R2.wk hwk
  have hwe : we.heap.size ≤ w1.heap.size := R1.ext.size
  have hW0 : W0.heap.size ≤ w1.heap.size := R1.hr.below.size
  have hfree : ∀ id bl, σ2.hp.blk id = some bl → (m1 id).1 ≠ w1.heap.size := fun id bl hb => by
    have := (R1.hr.live id bl (hwk.less.1 id bl hb)).lt
    omega
  refine wp_block (wp_mono (wp_loop_ghost (fun (g : Nat) a w => ∃ σ m pos, g = s.size - pos ∧ I pos σ ∧ σ.env t = itAt w1.heap.size ∧ Rel W0 we he me n σ a w m ∧ w.heap[w1.heap.size]? = some (.stringIter s pos) ∧ ∀ id bl, σ.hp.blk id = some bl → (m id).1 ≠ w1.heap.size) s.size
    (Q := fun e a w => ∃ σ' m', blockK b K e σ' ∧ Rel W0 we he me n σ' a w m')
    ⟨σ2, m1, 0, rfl, hI0, hit, R3, World.iter_heap w1 s 0, hfree⟩ ?_) ?_)
  · rintro g a w ⟨⟨e, hp⟩, m, pos, rfl, hI, hte, R, hk, hav⟩
    have hta : a.eval (.tmp t) = .pointer (some ⟨w1.heap.size, 0, none⟩) := by
      have := R.eval (.tmp t)
      have hte' : (⟨e, hp⟩ : St).eval (.tmp t) = itAt w1.heap.size := hte
      rw [hte'] at this
      generalize a.eval (.tmp t) = q at this ⊢
      cases this
      rfl
    have hr2 := hround pos e hp hte hI
    refine wp_seq (wp_region_lit (wpList_step fun K1 hK1 => ?_))
    rw [if_pos (by simp [Region.wanted])]
    by_cases hlt : pos < s.size
    · have hrun : Runs P ⟨some d, .next (.tmp t) true, ty1, pos1, af1, none⟩ a.eval w (fun v w' => v = .tuple #[.bool true, .int .i64 pos, .int .i32 (Utf8.decode s pos).1] ∧ w' = w.iterAt w1.heap.size s (pos + (Utf8.decode s pos).2)) :=
        Runs.value (by simp only [execOp, hta, Sem.run_bind, Lib.run_next_any_at w _ s pos ty1 hk hlt, Result.andThen_ok, Sem.run_pure]) ⟨rfl, rfl⟩
      refine hrun.wp ?_
      rintro v w' ⟨rfl, rfl⟩
      refine hK1 _ _ (wpList_step fun K2 hK2 => ?_)
      rw [if_pos (by simp [Region.wanted])]
      have R' := (R.iterAt (pos' := pos + (Utf8.decode s pos).2) hk hwe hW0 hav).step (h' := hp) (d := some d) (r := .tup [.one (.val (.bool true)), .one (.val (.int .i64 pos)), .one (.val (.int .i32 (Utf8.decode s pos).1))])
        (v := .tuple #[.bool true, .int .i64 pos, .int .i32 (Utf8.decode s pos).1]) (R.iterAt hk hwe hW0 hav).hr (Ext.refl _ _ _) ⟨[.bool true, .int .i64 pos, .int .i32 (Utf8.decode s pos).1], rfl, rfl, fun j sv u h1 h2 => by
          match j, h1, h2 with
          | 0, h1, h2 => obtain rfl := Option.some.inj h1; obtain rfl := Option.some.inj h2; exact .val _ rfl
          | 1, h1, h2 => obtain rfl := Option.some.inj h1; obtain rfl := Option.some.inj h2; exact .val _ rfl
          | 2, h1, h2 => obtain rfl := Option.some.inj h1; obtain rfl := Option.some.inj h2; exact .val _ rfl⟩ hd
      have hev : (a.put (some d) (.tuple #[.bool true, .int .i64 pos, .int .i32 (Utf8.decode s pos).1])).eval (.tmp d) = .tuple #[.bool true, .int .i64 pos, .int .i32 (Utf8.decode s pos).1] := by
        simp [Act.eval, Act.put, R.size, hd']
      have hrun2 : Runs P ⟨some d1, .extract (.tmp d) 0, ty2, pos2, af2, none⟩ (a.put (some d) (.tuple #[.bool true, .int .i64 pos, .int .i32 (Utf8.decode s pos).1])).eval (w.iterAt w1.heap.size s (pos + (Utf8.decode s pos).2))
          (fun v w' => v = .bool true ∧ w' = w.iterAt w1.heap.size s (pos + (Utf8.decode s pos).2)) :=
        Runs.value (by simp only [execOp, hev]; rfl) ⟨rfl, rfl⟩
      refine hrun2.wp ?_
      rintro v w' ⟨rfl, rfl⟩
      refine hK2 _ _ (wpList_nil ?_)
      have R'' := R'.step (h' := hp) (d := some d1) (r := .sv (.one (.val (.bool true)))) (v := .bool true) R'.hr (Ext.refl _ _ _) (.val _ rfl) hd1
      have hk' : (w.iterAt w1.heap.size s (pos + (Utf8.decode s pos).2)).heap[w1.heap.size]? = some (.stringIter s (pos + (Utf8.decode s pos).2)) := Lib.iterAt_heap w _ s pos _ hk
      -- the round, told from here
      have Rhere : Rel W0 (w.iterAt w1.heap.size s (pos + (Utf8.decode s pos).2)) hp m n ⟨upd (upd e d (.tup [.one (.val (.bool true)), .one (.val (.int .i64 pos)), .one (.val (.int .i32 (Utf8.decode s pos).1))])) d1 (.sv (.one (.val (.bool true)))), hp⟩ _ _ m :=
        ⟨R''.hr, Ext.refl _ _ _, R''.size, R''.defers, R''.env⟩
      refine wp_mono (hr2.1 hlt _ _ _ _ _ _ Rhere) ?_
      rintro ex a' w' ⟨σ', m', hk2, r2⟩
      have r2' : Rel W0 we he me n σ' a' w' m' := ⟨r2.hr, R''.ext.trans r2.ext, r2.size, r2.defers, r2.env⟩
      have hro := r2.ext.ro w1.heap.size (Array.getElem?_eq_some_iff.1 hk').1 hav
      have hdec := utf8_width s pos
      cases ex with
      | normal =>
        obtain ⟨σ4, hw4, hte4, hI4⟩ := hk2
        exact ⟨s.size - (pos + (Utf8.decode s pos).2), by omega, σ4, m', _, rfl, hI4, hte4, r2'.wk hw4, by rw [hro.1]; exact hk', fun id bl hb => hro.2 id bl (hw4.less.1 id bl hb)⟩
      | _ => exact ⟨σ', m', hk2, r2'⟩
    · have hrun : Runs P ⟨some d, .next (.tmp t) true, ty1, pos1, af1, none⟩ a.eval w (fun v w' => v = .tuple #[.bool false] ∧ w' = w) :=
        Runs.value (by simp only [execOp, hta, Sem.run_bind, Lib.run_next_end_at w _ s pos ty1 hk hlt, Result.andThen_ok, Sem.run_pure]) ⟨rfl, rfl⟩
      refine hrun.wp ?_
      rintro v w' ⟨rfl, rfl⟩
      refine hK1 _ _ (wpList_step fun K2 hK2 => ?_)
      rw [if_pos (by simp [Region.wanted])]
      have R' := R.step (h' := hp) (d := some d) (r := .tup [.one (.val (.bool false))]) (v := .tuple #[.bool false]) R.hr (Ext.refl _ _ _) ⟨[.bool false], rfl, rfl, fun j sv u h1 h2 => by
          match j, h1, h2 with
          | 0, h1, h2 => obtain rfl := Option.some.inj h1; obtain rfl := Option.some.inj h2; exact .val _ rfl⟩ hd
      have hev : (a.put (some d) (.tuple #[.bool false])).eval (.tmp d) = .tuple #[.bool false] := by
        simp [Act.eval, Act.put, R.size, hd']
      have hrun2 : Runs P ⟨some d1, .extract (.tmp d) 0, ty2, pos2, af2, none⟩ (a.put (some d) (.tuple #[.bool false])).eval w' (fun v w2 => v = .bool false ∧ w2 = w') :=
        Runs.value (by simp only [execOp, hev]; rfl) ⟨rfl, rfl⟩
      refine hrun2.wp ?_
      rintro v w2 ⟨rfl, rfl⟩
      refine hK2 _ _ (wpList_nil ?_)
      have R'' := R'.step (h' := hp) (d := some d1) (r := .sv (.one (.val (.bool false)))) (v := .bool false) R'.hr (Ext.refl _ _ _) (.val _ rfl) hd1
      refine wp_mono (hr2.2 hlt _ _ _ _ _ _ R'') ?_
      rintro ex a' w' ⟨σ', m', hk2, r2⟩
      cases ex with
      | normal => exact hk2.elim
      | _ => exact ⟨σ', m', hk2, r2⟩
  · rintro ex a' w' ⟨σ', m', hk2, r2⟩
    cases ex with
    | exit j =>
      simp only [blockK] at hk2
      simp only [Exit.inBlock]
      split
      · rename_i e; rw [if_pos e] at hk2; exact ⟨σ', m', hk2, r2⟩
      · rename_i e; rw [if_neg e] at hk2; exact ⟨σ', m', hk2, r2⟩
    | _ => exact ⟨σ', m', hk2, r2⟩

/-- What a loop over a text's runes asks, told of the state behind the region that makes the iterator. -/
def RngK (P : Program) (W0 : World) (n : Nat) (K : Exit → St → Prop) (t d d1 b : Nat) (rest : Code) (x : Operand) (σ1 : St) : Prop :=
  ∃ s : ByteArray, σ1.eval x = .sv (.one (.val (.string s))) ∧ ∀ k, ∃ I : Nat → St → Prop,
      (∃ σ2, Wk W0 (σ1.put (some t) (itAt k)) σ2 ∧ σ2.env t = itAt k ∧ I 0 σ2) ∧ ∀ (pos : Nat) (e : Nat → Slot) (hp : Hp), e t = itAt k → I pos ⟨e, hp⟩ →
        (pos < s.size → PWP P W0 n rest (thenK (fun σ3 => ∃ σ4, Wk W0 σ3 σ4 ∧ σ4.env t = itAt k ∧ I (pos + (Utf8.decode s pos).2) σ4) (blockK b K))
          ⟨upd (upd e d (.tup [.one (.val (.bool true)), .one (.val (.int .i64 pos)), .one (.val (.int .i32 (Utf8.decode s pos).1))])) d1 (.sv (.one (.val (.bool true)))), hp⟩) ∧
        (¬ pos < s.size → PWP P W0 n rest (thenK (fun _ => False) (blockK b K)) ⟨upd (upd e d (.tup [.one (.val (.bool false))])) d1 (.sv (.one (.val (.bool false)))), hp⟩)

theorem pwp_rng {rid b r t d d1 : Nat} {L : List Oper} {x : Operand} {ty ty0 ty1 ty2 : TypeId} {pos0 pos1 pos2 : String} {af0 af1 af2 : Array Edge} {rest : Code} (q : Nat)
    (hL : L = L.take q ++ [(⟨some t, .range ty x, ty0, pos0, af0, none⟩ : Oper)]) (ht : decide (t < n) = true) (hd : decide (d < n) = true) (hd1 : decide (d1 < n) = true) (hne : decide (d1 ≠ d) = true) (hty : P.underlying ty = some .string)
    (H : ∀ M : St → Prop, (∀ σ1, RngK P W0 n K t d d1 b rest x σ1 → M σ1) → pops P W0 n L.toArray M (L.take q) σ) :
    PWP P W0 n (.seq (.region rid L.toArray false) (.block b (.loop (.seq (.region r #[⟨some d, .next (.tmp t) true, ty1, pos1, af1, none⟩, ⟨some d1, .extract (.tmp d) 0, ty2, pos2, af2, none⟩] false) rest)))) K σ := by
  have H' := H _ fun _ h => h
  generalize L.take q = l at hL H'
  subst hL
  exact pwp_range_str ht hd hd1 hne hty H'

end
end Go.Pw

/-
  PW, part Z: bytes of one's own.
-/
namespace Go.Pw
open Go Go.RowKit

/-- A block of bytes; its element's type. -/
def bytesBlk (t : TypeId) (l : List UInt8) : Blk := ⟨t, 1, l.map byteCell, 0, false⟩
abbrev pbyte (c : UInt8) : PV := .val (.int .u8 c.toNat)

section
variable {P : Program} {W0 : World} {h : Hp} {N : Slot → Hp → Prop} {id i : Nat} {t t8 ts : TypeId} {l : List UInt8} {c : UInt8}

theorem toBytes (hs : P.underlying ts = some .string) (ht : P.underlying t = some (.slice t8)) (h8 : P.underlying t8 = some (.int .u8)) (hl : l.length ≤ 9223372036854775807)
    (H : ∀ id, h.lim ≤ id → N (.sv (.one (.own id 0 0 l.length))) (h.new id (bytesBlk t8 l))) : popConvert P ts t (.sv (.one (pstr l))) h N := by
  unfold popConvert
  rw [hs, ht]
  simp only [h8, str_size]
  exact ⟨trivial, hl, fun id hid => H id hid⟩

theorem fromBytes (hs : P.underlying ts = some .string) (ht : P.underlying t = some (.slice t8)) (h8 : P.underlying t8 = some (.int .u8)) (hb : h.blk id = some (bytesBlk t8 l))
    (H : N (.sv (.one (pstr l))) h) : popConvert P t ts (.sv (.one (.own id 0 0 l.length))) h N := by
  unfold popConvert
  rw [hs, ht]
  refine ⟨h8, l, ⟨1, ?_⟩, H⟩
  unfold srcOf
  simp only [hb, bytesBlk]
  simp [List.take_of_length_le]

theorem ixByte {ix : Int} (ht : P.underlying t = some (.slice t8)) (hz : szOf P t8 = some 1) (hb : h.blk id = some (bytesBlk t8 l)) (hix : ix = i) (hi : i < l.length) {K : Slot → Prop} (H : K (.sv (.one (.ptr id 0 i 0)))) :
    popIndexAddr P t (.sv (.one (.own id 0 0 l.length))) (.sv (.one (.val (.int .i64 ix)))) h K := by
  subst hix
  unfold popIndexAddr
  simp only [ht, hb, bytesBlk, hz]
  refine ⟨trivial, Int.natCast_nonneg _, by omega, trivial, ?_⟩
  rw [Int.toNat_natCast, Nat.zero_add]
  exact H

theorem loadByte (h8 : P.underlying t8 = some (.int .u8)) (hb : h.blk id = some (bytesBlk t8 l)) (hx : l[i]? = some c) (H : N (.sv (.one (pbyte c))) h) : popLoad P W0 t8 (.sv (.one (.ptr id 0 i 0))) h N := by
  unfold popLoad
  simp only [hb, bytesBlk, List.getElem?_map, hx, Option.map_some, byteCell, List.drop_zero]
  refine ⟨trivial, ?_⟩
  unfold loadK
  simp only [h8, isAggD]
  exact H

theorem storeByte (hz : szOf P t8 = some 1) (hb : h.blk id = some (bytesBlk t8 l)) (hi : i < l.length) (H : N (.tup []) (h.set id (bytesBlk t8 (l.set i c)))) :
    popStore P t8 (.sv (.one (.ptr id 0 i 0))) (.sv (.one (pbyte c))) h N := by
  unfold popStore
  have hx : l[i]? = some l[i] := List.getElem?_eq_getElem hi
  simp only [hb, bytesBlk, List.getElem?_map, hx, Option.map_some, slotCells, hz, byteCell, List.length_cons, List.length_nil]
  refine ⟨trivial, trivial, by omega, ?_⟩
  have e : splice [PV.val (.int .u8 (l[i].toNat : Int))] 0 [pbyte c] = byteCell c := by simp [splice, byteCell]
  have e2 : (l.map byteCell).set i (byteCell c) = (l.set i c).map byteCell := by rw [List.map_set]
  rw [e, e2]
  exact H

end

/-- What is nil is an empty row, too. -/
theorem SlotWk.nil1 {W0 : World} {h : Hp} (sz : Nat) : SlotWk W0 h (.sv (.one (.val (.slice none 0 0)))) h (.sv (.one (.ro true sz []))) :=
  ⟨Less.refl _, fun w m _ v x => by
    cases x with
    | val _ _ => exact .ro0 _ _ _ _ (fun _ => rfl)⟩
theorem SlotWk.nil2 {W0 : World} {h : Hp} (sz : Nat) (s : SV) : SlotWk W0 h (.tup [.one (.val (.slice none 0 0)), s]) h (.tup [.one (.ro true sz []), s]) :=
  ⟨Less.refl _, fun w m _ v x => by
    obtain ⟨vs, e, hl, hv⟩ := x
    refine ⟨vs, e, hl, fun j s' u h1 h2 => ?_⟩
    match j, h1, h2 with
    | 0, h1, h2 =>
      obtain rfl := Option.some.inj h1
      have := hv 0 _ u rfl h2
      cases this with
      | val _ _ => exact .ro0 _ _ _ _ (fun _ => rfl)
    | 1, h1, h2 => exact hv 1 s' u h1 h2⟩

end Go.Pw

/-
  PW, part W: a slice of one's own, frozen: from here on it is only read.
-/
namespace Go.Pw
open Go Go.RowKit

def Hp.drop (h : Hp) (id : Nat) : Hp := ⟨fun j => if j = id then none else h.blk j, h.lim⟩
theorem Less.drop (h : Hp) (id : Nat) : Less h (h.drop id) := ⟨fun j b hb => by
  simp only [Hp.drop] at hb
  split at hb
  · cases hb
  · exact hb, Nat.le_refl _⟩

theorem vr_freeze {W0 w : World} {h : Hp} {m : Loc} {id ver len : Nat} {b : Blk} {v : Value} (R : HR W0 w h m) (hb : h.blk id = some b) (hv : b.ver = ver) (H : VR w h m (.own id ver 0 len) v) : VR w (h.drop id) m (.ro false b.sz (b.es.take len)) v := by
  have x := (Less.drop h id).ext (w := w) (m := m)
  cases H with
  | own _ _ _ _ ad c hid hver hbl =>
    obtain ⟨h1, h2, h3⟩ := hbl b hb hv
    obtain ⟨rfl, rfl⟩ := h3 (.inr rfl)
    obtain ⟨h0, cur, fr, hg, hsz, hle, hcap, hpl, hfr, hc⟩ := R.live id b hb
    rw [Nat.zero_mul]
    have hlen : (b.es.take len).length = len := by rw [List.length_take]; omega
    refine .ro false b.sz (b.es.take len) (m id).1 0 _ len (fun i j => (cur[i * b.sz + j]?).getD undef) hlen (fun h => by cases h) (by omega) (R.live id b hb).lt ?_ ?_ ?_ ?_
    · intro j c hj e
      simp only [Hp.drop] at hj
      split at hj
      · cases hj
      · rename_i hne
        exact hne (R.inj j id c b hj hb e)
    · intro i es hi
      rw [List.getElem?_take] at hi
      split at hi
      · exact (hc i es hi).1
      · cases hi
    · intro i es j p hi hj
      rw [List.getElem?_take] at hi
      split at hi
      · obtain ⟨u, hu, _⟩ := (hc i es hi).2 j p hj
        rw [cell_of_row w _ _ cur b.ty fr hg, Nat.zero_add, hu]
        rfl
      · cases hi
    · intro i es j p hi hj
      rw [List.getElem?_take] at hi
      split at hi
      · obtain ⟨u, hu, hr⟩ := (hc i es hi).2 j p hj
        rw [hu]
        exact hr.ext x
      · cases hi

/-- A slot that holds such a slice may be told as a row that is only read, the block forgotten. -/
theorem wk_freeze {W0 : World} {e : Nat → Slot} {h : Hp} {t id ver len : Nat} {b : Blk} (hb : h.blk id = some b) (hv : b.ver = ver) (ht : e t = .sv (.one (.own id ver 0 len))) :
    Wk W0 ⟨e, h⟩ ⟨upd e t (.sv (.one (.ro false b.sz (b.es.take len)))), h.drop id⟩ :=
  ⟨Less.drop h id, fun w m R i v hl => by
    simp only [upd]
    split
    · rename_i hi
      subst hi
      have hl' : LR w h m (e i) v := hl
      rw [ht] at hl'
      exact vr_freeze R hb hv hl'
    · exact hl.ext (Less.drop h id).ext⟩

theorem endKeeps2 {W0 : World} {h h1 : Hp} {s : Slot} {a b : Value} (hs : Keeps h h1) (hr : s = .tup [.one (.val a), .one (.val b)]) :
    ∃ r' h', SlotWk W0 h1 s h' r' ∧ (r' = .tup [.one (.val a), .one (.val b)] ∧ Same h h') :=
  endKeeps hs hr (by
    subst hr
    rintro w m u ⟨vs, e, hl, hv⟩
    refine ⟨vs, e, hl, fun j s u h1 h2 => ?_⟩
    have := hv j s u h1 h2
    match j, h1 with
    | 0, h1 => obtain rfl := Option.some.inj h1; cases this with | val _ h1 => exact .val _ h1
    | 1, h1 => obtain rfl := Option.some.inj h1; cases this with | val _ h1 => exact .val _ h1)

/-- A slice of texts that a loop builds: nil at first, then of its own. -/
def OutIs (ty : TypeId) (h0 hp : Hp) (sl : Slot) (out : List (List UInt8)) : Prop :=
  (sl = .sv (.one (.val (.slice none 0 0))) ∧ out = []) ∨
  ∃ id ver es, sl = .sv (.one (.own id ver 0 out.length)) ∧ h0.lim ≤ id ∧ hp.blk id = some ⟨ty, 1, es, ver, true⟩ ∧ es.take out.length = pstrs out

section
variable {P : Program} {W0 : World} {h0 hp : Hp} {sl : Slot} {out : List (List UInt8)} {t e : TypeId}

theorem OutIs.same {hq : Hp} (O : OutIs e h0 hp sl out) (s : Same hp hq) : OutIs e h0 hq sl out := by
  rcases O with ⟨a, b⟩ | ⟨id, ver, es, a, b, c, d⟩
  · exact .inl ⟨a, b⟩
  · exact .inr ⟨id, ver, es, a, b, by rw [s.1]; exact c, d⟩

theorem out_len {N : Value → Prop} (ht : P.underlying t = some (.slice e)) (O : OutIs e h0 hp sl out) (H : N (.int .i64 out.length)) : popLen P t sl N := by
  unfold popLen
  rw [ht]
  rcases O with ⟨rfl, rfl⟩ | ⟨id, ver, es, rfl, _, _, _⟩
  · exact H
  · exact H

theorem out_cut {N : Slot → Prop} {k : Int} (ht : P.underlying t = some (.slice e)) (hz : szOf P e = some 1) (O : OutIs e h0 hp sl out) (hne : out ≠ []) (hk : k = (out.length : Int) - 1) (H : ∀ sl', OutIs e h0 hp sl' out.dropLast → N sl') :
    popSlice P t sl none (some (.sv (.one (.val (.int .i64 k))))) hp N := by
  have hpos : 0 < out.length := List.length_pos_iff.2 hne
  unfold popSlice
  rw [ht]
  rcases O with ⟨rfl, rfl⟩ | ⟨id, ver, es, rfl, h1, h2, h3⟩
  · exact absurd rfl hne
  · simp only [boundOf, h2]
    refine ⟨trivial, Int.le_refl _, by omega, by omega, hz, ?_⟩
    have e1 : 0 + (0 : Int).toNat = 0 := rfl
    have e2 : k.toNat - (0 : Int).toNat = out.dropLast.length := by rw [List.length_dropLast]; omega
    have e3 : ((0 : Nat) : Int).toNat = 0 := rfl
    refine H _ (.inr ⟨id, ver, es, ?_, h1, h2, ?_⟩)
    · simp only [e3]
      rw [show k.toNat - 0 = out.dropLast.length by rw [List.length_dropLast]; omega]
    · rw [List.length_dropLast, List.dropLast_eq_take, pstrs, List.map_take, ← pstrs, ← h3, List.take_take, Nat.min_eq_left (by omega)]

theorem out_app {N : Slot → Hp → Prop} {x : List UInt8} {z : Value} {by_ : Nat} (hb0 : hpOk h0) (ht : P.underlying t = some (.slice e)) (hz : szOf P e = some 1) (hby : bytesOf' P e = some by_) (hze : zeroOf P e = some z) (hzc : z.cells.size = 1) (O : OutIs e h0 hp sl out) (K : Keeps h0 hp) (hl : appendLim (out.length + 1) by_)
    (H : ∀ sl' hp', OutIs e h0 hp' sl' (out ++ [x]) → Keeps h0 hp' → N sl' hp') : popAppend P t sl (.sv (.one (.ro true 1 [[pstr x]]))) hp N := by
  unfold popAppend
  rw [ht]
  simp only [hz, hby, hze, srcOf]
  refine ⟨Nat.one_pos, hzc, .inr trivial, ?_⟩
  rcases O with ⟨rfl, rfl⟩ | ⟨id, ver, es, rfl, h1, h2, h3⟩
  · refine ⟨hl, fun h => by simp at h, fun _ id hid => H _ _ (.inr ⟨id, 0, [[pstr x]], rfl, Nat.le_trans K.2 hid, blk_new _ _ _, rfl⟩) ?_⟩
    exact ⟨fun j b hj => by
      have hj' := hb0 j b hj
      simp only [Hp.new]
      rw [if_neg (by have := K.2; omega)]
      exact K.1 j b hj, by simp only [Hp.new]; have := K.2; omega⟩
  · simp only [h2]
    refine ⟨trivial, trivial, trivial, trivial, by simpa using hl, H _ _ (.inr ⟨id, ver + 1, es.take out.length ++ [[pstr x]], by simp, h1, blk_set _ _ _, ?_⟩) (K.set hb0 h1)⟩
    rw [h3, List.take_of_length_le (by simp)]
    simp

theorem out_freeze {E : Nat → Slot} {s : Nat} (O : OutIs e h0 hp (E s) out) (hb0 : hpOk h0) (K : Keeps h0 hp) : ∃ hp', Wk W0 ⟨E, hp⟩ ⟨upd E s (.sv (.one (.ro false 1 (pstrs out)))), hp'⟩ ∧ Keeps h0 hp' := by
  rcases O with ⟨h1, rfl⟩ | ⟨id, ver, es, h1, h2, h3, h4⟩
  · refine ⟨hp, ⟨Less.refl _, fun w m R i v hl => ?_⟩, K⟩
    simp only [upd]
    split
    · rename_i hi
      subst hi
      have hl' : LR w hp m (E i) v := hl
      rw [h1] at hl'
      cases hl' with
      | val _ _ => exact .ro0 _ _ _ _ (fun h => by cases h)
    · exact hl
  · have k := wk_freeze (W0 := W0) h3 rfl h1
    simp only [h4] at k
    exact ⟨_, k, fun j b hj => by
      have := hb0 j b hj
      simp only [Hp.drop]
      rw [if_neg (by omega)]
      exact K.1 j b hj, K.2⟩

theorem pwp_freeze {n : Nat} {c : Code} {Kx : Exit → St → Prop} {E : Nat → Slot} (s : Nat) (hE : E s = sl) (O : OutIs e h0 hp sl out) (hb0 : hpOk h0) (K : Keeps h0 hp)
    (H : ∀ hp', Keeps h0 hp' → PWP P W0 n c Kx ⟨upd E s (.sv (.one (.ro false 1 (pstrs out)))), hp'⟩) : PWP P W0 n c Kx ⟨E, hp⟩ := by
  obtain ⟨hp', k, hk⟩ := out_freeze (W0 := W0) (E := E) (s := s) (by rw [hE]; exact O) hb0 K
  exact (H hp' hk).wk k

end
end Go.Pw

/-
  PW, part T: a slice that a loop builds, with elements of any kind: nil at first, then of its own.
-/
namespace Go.Pw
open Go Go.RowKit

def RowIs (e : TypeId) (sz : Nat) (h0 hp : Hp) (sl : Slot) (xs : List (List PV)) : Prop :=
  (sl = .sv (.one (.val (.slice none 0 0))) ∧ xs = []) ∨
  ∃ id ver es, sl = .sv (.one (.own id ver 0 xs.length)) ∧ h0.lim ≤ id ∧ hp.blk id = some ⟨e, sz, es, ver, true⟩ ∧ es.take xs.length = xs

section
variable {P : Program} {W0 : World} {h0 hp : Hp} {sl : Slot} {xs : List (List PV)} {t e : TypeId} {sz : Nat}

theorem RowIs.nil (e : TypeId) (sz : Nat) (h0 hp : Hp) : RowIs e sz h0 hp (.sv (.one (.val (.slice none 0 0)))) [] := .inl ⟨rfl, rfl⟩

theorem RowIs.made {id : Nat} {hq : Hp} (hid : h0.lim ≤ id) : RowIs e sz h0 (hq.new id ⟨e, sz, xs, 0, true⟩) (.sv (.one (.own id 0 0 xs.length))) xs :=
  .inr ⟨id, 0, xs, rfl, hid, blk_new _ _ _, List.take_length⟩

theorem RowIs.same {hq : Hp} (O : RowIs e sz h0 hp sl xs) (s : Same hp hq) : RowIs e sz h0 hq sl xs := by
  rcases O with ⟨a, b⟩ | ⟨id, ver, es, a, b, c, d⟩
  · exact .inl ⟨a, b⟩
  · exact .inr ⟨id, ver, es, a, b, by rw [s.1]; exact c, d⟩

theorem RowIs.keeps {hq : Hp} (O : RowIs e sz h0 hp sl xs) (s : Keeps hp hq) : RowIs e sz h0 hq sl xs := by
  rcases O with ⟨a, b⟩ | ⟨id, ver, es, a, b, c, d⟩
  · exact .inl ⟨a, b⟩
  · exact .inr ⟨id, ver, es, a, b, s.1 _ _ c, d⟩

theorem row_len {N : Value → Prop} (ht : P.underlying t = some (.slice e)) (O : RowIs e sz h0 hp sl xs) (H : N (.int .i64 xs.length)) : popLen P t sl N := by
  unfold popLen
  rw [ht]
  rcases O with ⟨rfl, rfl⟩ | ⟨id, ver, es, rfl, _, _, _⟩
  · exact H
  · exact H

theorem row_cut {N : Slot → Prop} {k : Int} {j : Nat} (ht : P.underlying t = some (.slice e)) (hz : szOf P e = some sz) (O : RowIs e sz h0 hp sl xs) (hne : xs ≠ []) (hk : k = (j : Int)) (hj : j ≤ xs.length) (H : ∀ sl', RowIs e sz h0 hp sl' (xs.take j) → N sl') :
    popSlice P t sl none (some (.sv (.one (.val (.int .i64 k))))) hp N := by
  subst hk
  unfold popSlice
  rw [ht]
  rcases O with ⟨rfl, rfl⟩ | ⟨id, ver, es, rfl, h1, h2, h3⟩
  · exact absurd rfl hne
  · simp only [boundOf, h2]
    refine ⟨trivial, Int.le_refl _, by omega, by omega, hz, ?_⟩
    have e3 : ((0 : Nat) : Int).toNat = 0 := rfl
    have e4 : (xs.take j).length = j := by rw [List.length_take]; omega
    refine H _ (.inr ⟨id, ver, es, ?_, h1, h2, ?_⟩)
    · simp only [e3, e4, Int.toNat_natCast, Nat.sub_zero, Nat.add_zero]
    · rw [e4]
      have e5 : es.take j = (es.take xs.length).take j := by rw [List.take_take, Nat.min_eq_left hj]
      rw [e5, h3]

theorem row_app {N : Slot → Hp → Prop} {src : Slot} {sz' : Nat} {ys : List (List PV)} {z : Value} {by_ : Nat} (hb0 : hpOk h0) (ht : P.underlying t = some (.slice e)) (hz : szOf P e = some sz) (hby : bytesOf' P e = some by_) (hze : zeroOf P e = some z) (hzc : z.cells.size = sz) (hpos : 0 < sz)
    (O : RowIs e sz h0 hp sl xs) (K : Keeps h0 hp) (hs : srcOf hp src = some (sz', ys)) (hss : ys = [] ∨ sz' = sz) (hl : appendLim (xs.length + ys.length) by_)
    (H : ∀ sl' hp', RowIs e sz h0 hp' sl' (xs ++ ys) → Keeps h0 hp' → N sl' hp') : popAppend P t sl src hp N := by
  unfold popAppend
  rw [ht]
  simp only [hz, hby, hze, hs]
  refine ⟨hpos, hzc, hss, ?_⟩
  rcases O with ⟨rfl, rfl⟩ | ⟨id, ver, es, rfl, h1, h2, h3⟩
  · refine ⟨by simpa using hl, fun h => by subst h; exact H _ _ (by simpa using RowIs.nil e sz h0 hp) K, fun _ id hid => H _ _ (.inr ⟨id, 0, ys, rfl, Nat.le_trans K.2 hid, blk_new _ _ _, by simp⟩) ?_⟩
    exact ⟨fun j b hj => by
      have hj' := hb0 j b hj
      simp only [Hp.new]
      rw [if_neg (by have := K.2; omega)]
      exact K.1 j b hj, by simp only [Hp.new]; have := K.2; omega⟩
  · simp only [h2]
    refine ⟨trivial, trivial, trivial, trivial, hl, H _ _ (.inr ⟨id, ver + 1, es.take xs.length ++ ys, by simp, h1, blk_set _ _ _, ?_⟩) (K.set hb0 h1)⟩
    rw [h3, List.take_of_length_le (by simp)]

/-- A text's bytes, appended to a row of bytes. -/
theorem row_appS {N : Slot → Hp → Prop} {l q : List UInt8} {z : Value} {by_ : Nat} (hb0 : hpOk h0) (ht : P.underlying t = some (.slice e)) (hz : szOf P e = some 1) (hby : bytesOf' P e = some by_) (hze : zeroOf P e = some z) (hzc : z.cells.size = 1)
    (O : RowIs e 1 h0 hp sl (l.map byteCell)) (K : Keeps h0 hp) (hl : appendLim (l.length + q.length) by_)
    (H : ∀ sl' hp', RowIs e 1 h0 hp' sl' ((l ++ q).map byteCell) → Keeps h0 hp' → N sl' hp') : popAppendStr P t sl (.sv (.one (pstr q))) hp N := by
  unfold popAppendStr
  have hq : (⟨q.toArray⟩ : ByteArray).size = q.length := str_size q
  have hd : (⟨q.toArray⟩ : ByteArray).data.toList = q := str_data q
  simp only [ht, hz, hby, hze, hq, hd]
  refine ⟨trivial, hzc, ?_⟩
  rcases O with ⟨rfl, hx⟩ | ⟨id, ver, es, rfl, h1, h2, h3⟩
  · obtain rfl : l = [] := by simpa using hx
    refine ⟨by simpa using hl, fun h => ?_, fun _ id hid => H _ _ (.inr ⟨id, 0, q.map byteCell, by simp, Nat.le_trans K.2 hid, blk_new _ _ _, List.take_of_length_le (by simp)⟩) ?_⟩
    · obtain rfl := List.eq_nil_of_length_eq_zero h
      exact H _ _ (by simpa using RowIs.nil e 1 h0 hp) K
    · exact ⟨fun j b hj => by
        have hj' := hb0 j b hj
        simp only [Hp.new]
        rw [if_neg (by have := K.2; omega)]
        exact K.1 j b hj, by simp only [Hp.new]; have := K.2; omega⟩
  · simp only [h2]
    rw [List.length_map] at h3 ⊢
    refine ⟨trivial, trivial, trivial, trivial, hl, H _ _ (.inr ⟨id, ver + 1, es.take l.length ++ q.map byteCell, by simp, h1, blk_set _ _ _, ?_⟩) (K.set hb0 h1)⟩
    rw [h3, List.take_of_length_le (by simp), List.map_append]

/-- A row that is not empty lies in a block. -/
theorem RowIs.open (O : RowIs e sz h0 hp sl xs) (hne : 0 < xs.length) : ∃ id ver es, sl = .sv (.one (.own id ver 0 xs.length)) ∧ h0.lim ≤ id ∧ hp.blk id = some ⟨e, sz, es, ver, true⟩ ∧ es.take xs.length = xs ∧ ∀ i, i < xs.length → es[i]? = xs[i]? := by
  rcases O with ⟨_, rfl⟩ | ⟨id, ver, es, h1, h2, h3, h4⟩
  · simp at hne
  · refine ⟨id, ver, es, h1, h2, h3, h4, fun i hi => ?_⟩
    have : (es.take xs.length)[i]? = xs[i]? := by rw [h4]
    rw [List.getElem?_take, if_pos hi] at this
    exact this

/-- A pointer to an element: what is read and written through it. -/
structure ElAt (e : TypeId) (sz : Nat) (h0 hp : Hp) (sl : Slot) (xs : List (List PV)) (i : Nat) (id ver : Nat) (es : List (List PV)) : Prop where
  sl : sl = .sv (.one (.own id ver 0 xs.length))
  lim : h0.lim ≤ id
  blk : hp.blk id = some ⟨e, sz, es, ver, true⟩
  tk : es.take xs.length = xs
  lt : i < xs.length

theorem row_at {N : Slot → Prop} {ix : Int} {i : Nat} (ht : P.underlying t = some (.slice e)) (hz : szOf P e = some sz) (O : RowIs e sz h0 hp sl xs) (hix : ix = (i : Int)) (hi : i < xs.length)
    (H : ∀ id ver es, ElAt e sz h0 hp sl xs i id ver es → N (.sv (.one (.ptr id ver i 0)))) : popIndexAddr P t sl (.sv (.one (.val (.int .i64 ix)))) hp N := by
  subst hix
  obtain ⟨id, ver, es, rfl, h1, h2, h3, h4⟩ := O.open (by omega)
  unfold popIndexAddr
  simp only [ht, h2, hz]
  refine ⟨trivial, Int.natCast_nonneg _, by omega, trivial, ?_⟩
  rw [Int.toNat_natCast, Nat.zero_add]
  exact H id ver es ⟨rfl, h1, h2, h3, hi⟩

theorem ElAt.get {i id ver : Nat} {es : List (List PV)} (E : ElAt e sz h0 hp sl xs i id ver es) : es[i]? = xs[i]? := by
  have : (es.take xs.length)[i]? = xs[i]? := by rw [E.tk]
  rw [List.getElem?_take, if_pos E.lt] at this
  exact this

theorem el_load {N : Slot → Hp → Prop} {i id ver o : Nat} {es : List (List PV)} {c : List PV} {u : TypeId} (E : ElAt e sz h0 hp sl xs i id ver es) (hc : xs[i]? = some c) (H : loadK P u (c.drop o) (fun s => N s hp)) : popLoad P W0 u (.sv (.one (.ptr id ver i o))) hp N := by
  unfold popLoad
  have hg := E.get
  rw [hc] at hg
  simp only [E.blk, hg]
  exact ⟨trivial, H⟩

theorem el_store {N : Slot → Hp → Prop} {i id ver o : Nat} {es : List (List PV)} {c ps : List PV} {u : TypeId} {y : Slot} (E : ElAt e sz h0 hp sl xs i id ver es) (hb0 : hpOk h0) (K : Keeps h0 hp) (hc : xs[i]? = some c) (hy : slotCells y = some ps) (hu : szOf P u = some ps.length) (ho : o + ps.length ≤ c.length)
    (H : ∀ hp', RowIs e sz h0 hp' sl (xs.set i (splice c o ps)) → Keeps h0 hp' → N (.tup []) hp') : popStore P u (.sv (.one (.ptr id ver i o))) y hp N := by
  unfold popStore
  have hg := E.get
  rw [hc] at hg
  simp only [E.blk, hg, hy]
  refine ⟨trivial, hu, ho, H _ (.inr ⟨id, ver, es.set i (splice c o ps), by rw [List.length_set]; exact E.sl, E.lim, blk_set _ _ _, ?_⟩) (K.set hb0 E.lim)⟩
  rw [List.length_set, List.take_set, E.tk]

theorem row_freeze {E : Nat → Slot} {s : Nat} (O : RowIs e sz h0 hp (E s) xs) (hb0 : hpOk h0) (K : Keeps h0 hp) : ∃ hp', Wk W0 ⟨E, hp⟩ ⟨upd E s (.sv (.one (.ro false sz xs))), hp'⟩ ∧ Keeps h0 hp' := by
  rcases O with ⟨h1, rfl⟩ | ⟨id, ver, es, h1, h2, h3, h4⟩
  · refine ⟨hp, ⟨Less.refl _, fun w m R i v hl => ?_⟩, K⟩
    simp only [upd]
    split
    · rename_i hi
      subst hi
      have hl' : LR w hp m (E i) v := hl
      rw [h1] at hl'
      cases hl' with
      | val _ _ => exact .ro0 _ _ _ _ (fun h => by cases h)
    · exact hl
  · have k := wk_freeze (W0 := W0) h3 rfl h1
    simp only [h4] at k
    exact ⟨_, k, fun j b hj => by
      have := hb0 j b hj
      simp only [Hp.drop]
      rw [if_neg (by omega)]
      exact K.1 j b hj, K.2⟩

/-- The slice in a slot is told as one that is only read from here on. -/
theorem pwp_freezeRow {n : Nat} {c : Code} {Kx : Exit → St → Prop} {E : Nat → Slot} (s : Nat) (hE : E s = sl) (O : RowIs e sz h0 hp sl xs) (hb0 : hpOk h0) (K : Keeps h0 hp)
    (H : ∀ hp', Keeps h0 hp' → PWP P W0 n c Kx ⟨upd E s (.sv (.one (.ro false sz xs))), hp'⟩) : PWP P W0 n c Kx ⟨E, hp⟩ := by
  obtain ⟨hp', k, hk⟩ := row_freeze (W0 := W0) (E := E) (s := s) (by rw [hE]; exact O) hb0 K
  exact (H hp' hk).wk k

theorem wk_pops {n : Nat} {ops : Array Oper} {N : St → Prop} {rest : List Oper} {σ σ' : St} (H : PWP P W0 n (.region 0 rest.toArray false) (thenK N fun _ _ => False) σ') (k : Wk W0 σ σ') : PWP P W0 n (.region 0 rest.toArray false) (thenK N fun _ _ => False) σ := H.wk k

/-- Values keep what they say when blocks are forgotten: the row, told as one that is only read. -/
theorem row_slot (O : RowIs e sz h0 hp sl xs) (hb0 : hpOk h0) (K : Keeps h0 hp) : ∃ h', Less hp h' ∧ Keeps h0 h' ∧ ∀ w m, HR W0 w hp m → ∀ v, LR w hp m sl v → LR w h' m (.sv (.one (.ro false sz xs))) v := by
  rcases O with ⟨rfl, rfl⟩ | ⟨id, ver, es, rfl, h2, h3, h4⟩
  · exact ⟨hp, Less.refl _, K, fun w m _ v x => by
      cases x with
      | val _ _ => exact .ro0 _ _ _ _ (fun h => by cases h)⟩
  · refine ⟨hp.drop id, Less.drop hp id, ⟨fun j b hj => by
      have := hb0 j b hj
      simp only [Hp.drop]
      rw [if_neg (by omega)]
      exact K.1 j b hj, K.2⟩, fun w m R v x => ?_⟩
    have := vr_freeze R h3 rfl x
    rw [h4] at this
    exact this

theorem Less.back {h h1 : Hp} (K : Keeps h h1) : Less h1 (h.back h1) := ⟨fun id b hb => K.1 id b hb, Nat.le_refl _⟩

/-- A function's end: the row that was built is the result. -/
theorem endRow (O : RowIs e sz h0 hp sl xs) (hb0 : hpOk h0) (K : Keeps h0 hp) : ∃ r' h', SlotWk W0 hp sl h' r' ∧ (r' = .sv (.one (.ro false sz xs)) ∧ Same h0 h') := by
  obtain ⟨h', l, k, hv⟩ := row_slot (W0 := W0) O hb0 K
  exact ⟨_, h0.back h', ⟨l.trans (Less.back k), fun w m R v x => (hv w m R v x).ext (Less.back k).ext⟩, rfl, rfl, k.2⟩

theorem endRow2 {b : SV} {s : SV} {sv : Slot} (hsv : sv = .tup [s, b]) (hsl : sl = .sv s) (hbx : ∀ w h m h' v, Ext w h m w h' m → SVR w h m b v → SVR w h' m b v) (O : RowIs e sz h0 hp sl xs) (hb0 : hpOk h0) (K : Keeps h0 hp) :
    ∃ r' h', SlotWk W0 hp sv h' r' ∧ (r' = .tup [.one (.ro false sz xs), b] ∧ Same h0 h') := by
  subst hsv
  subst hsl
  obtain ⟨h', l, k, hv⟩ := row_slot (W0 := W0) O hb0 K
  refine ⟨_, h0.back h', ⟨l.trans (Less.back k), fun w m R v x => ?_⟩, rfl, rfl, k.2⟩
  obtain ⟨vs, e1, hl, hvs⟩ := x
  refine ⟨vs, e1, hl, fun j s' u h1 h2 => ?_⟩
  match j, h1, h2 with
  | 0, h1, h2 =>
    obtain rfl := Option.some.inj h1
    exact ((hv w m R u (hvs 0 _ u rfl h2)).ext (Less.back k).ext : LR w (h0.back h') m (.sv (.one (.ro false sz xs))) u)
  | 1, h1, h2 => exact (hvs 1 s' u h1 h2).ext (l.trans (Less.back k)).ext

/-- Bytes that were gathered, as a text. -/
theorem row_str {N : Slot → Hp → Prop} {ts t8 : TypeId} {l : List UInt8} (hs : P.underlying ts = some .string) (ht : P.underlying t = some (.slice t8)) (h8 : P.underlying t8 = some (.int .u8)) (O : RowIs t8 1 h0 hp sl (l.map byteCell))
    (H : N (.sv (.one (pstr l))) hp) : popConvert P t ts sl hp N := by
  unfold popConvert
  rcases O with ⟨rfl, hx⟩ | ⟨id, ver, es, rfl, h2, h3, h4⟩
  · obtain rfl : l = [] := by simpa using hx
    simp only [hs, ht]
    exact ⟨h8, [], ⟨0, rfl⟩, H⟩
  · simp only [hs, ht]
    refine ⟨h8, l, ⟨1, ?_⟩, H⟩
    unfold srcOf
    simp only [h3, List.drop_zero, h4, if_true]

theorem row_src (O : RowIs e sz h0 hp sl xs) : ∃ sz', srcOf hp sl = some (sz', xs) ∧ (xs = [] ∨ sz' = sz) := by
  rcases O with ⟨rfl, rfl⟩ | ⟨id, ver, es, rfl, h2, h3, h4⟩
  · exact ⟨0, rfl, .inl rfl⟩
  · refine ⟨sz, ?_, .inr rfl⟩
    unfold srcOf
    simp only [h3, List.drop_zero, h4, if_true]

theorem hpOk.same {a b : Hp} (H : hpOk a) (s : Same a b) : hpOk b := fun id bl hb => Nat.lt_of_lt_of_le (H id bl (by rw [← s.1]; exact hb)) s.2

/-- Wherever code is walked, no block lies above the bound. -/
theorem pwp_hpok {n : Nat} {c : Code} {K : Exit → St → Prop} {σ : St} (H : hpOk σ.hp → PWP P W0 n c K σ) : PWP P W0 n c K σ :=
  fun we he me a w m R => H R.hr.bound we he me a w m R

/-- A new block of one's own, of which the only holder tells no more than what is read. -/
theorem fresh_rop {w : World} {m : Loc} {h : Hp} {id : Nat} {u : TypeId} {ps : List PV} {v : Value} {k : Nat} (hk : k = ps.length) (hok : hpOk h) (hid : h.lim ≤ id) (R : HR W0 w ((h.new id ⟨u, k, [ps], 0, true⟩)) m)
    (hl : VR w (h.new id ⟨u, k, [ps], 0, true⟩) m (.ptr id 0 0 0) v) : VR w ⟨h.blk, id + 1⟩ m (.rop ps) v := by
  subst hk
  have X : Ext w (h.new id ⟨u, ps.length, [ps], 0, true⟩) m w ⟨h.blk, id + 1⟩ m := by
    refine Less.ext ⟨fun j b hb => ?_, Nat.le_refl _⟩
    have := hok j b hb
    simp only [Hp.new]
    rw [if_neg (by omega)]
    exact hb
  have hb := blk_new h id ⟨u, ps.length, [ps], 0, true⟩
  cases hl with
  | ptr _ _ _ _ ad hid2 hver hbl =>
    obtain rfl := hbl _ hb rfl
    obtain ⟨h0, cur, fr, hg, hsz2, hle, hcap, hpl, hfr, hc⟩ := R.live id _ hb
    obtain ⟨hlen, hcell⟩ := hc 0 ps rfl
    rw [Nat.zero_mul, Nat.zero_add]
    refine .rop ps (m id).1 0 (fun j => (cur[j]?).getD undef) (R.live id _ hb).lt (fun j b hj e => ?_) (fun j p hj => ?_) (fun j p hj => ?_)
    · have hj0 : h.blk j = some b := hj
      have hlt := hok j b hj0
      have hj1 : (h.new id ⟨u, ps.length, [ps], 0, true⟩).blk j = some b := by
        simp only [Hp.new]
        rw [if_neg (by omega)]
        exact hj0
      have := R.inj j id b _ hj1 hb e
      omega
    · obtain ⟨q, hq, _⟩ := hcell j p hj
      rw [cell_of_row w _ _ cur u fr hg]
      simp only [Nat.zero_mul, Nat.zero_add] at hq ⊢
      rw [hq]; rfl
    · obtain ⟨q, hq, hr⟩ := hcell j p hj
      simp only [Nat.zero_mul, Nat.zero_add] at hq
      rw [hq]
      exact hr.ext X

theorem less_new {h : Hp} {id : Nat} {b : Blk} (hok : hpOk h) (hid : h.lim ≤ id) : Less (h.new id b) ⟨h.blk, id + 1⟩ :=
  ⟨fun j b hb => by
    have := hok j b hb
    simp only [Hp.new]
    rw [if_neg (by omega)]
    exact hb, Nat.le_refl _⟩

/-- A variable's birth, where it will be written once. -/
theorem pops_valloc {n : Nat} {ops : Array Oper} {N : St → Prop} {rest : List Oper} {e0 : Nat → Slot} {h : Hp} {d : Nat} {u ty1 : TypeId} {pos1 : String} {af1 : Array Edge} {z : Value} {zs : List PV}
    (hd : decide (d < n) = true) (hz : zeroOf P u = some z) (hzc : slotCells (constSlot z) = some zs) (hpos : 0 < zs.length)
    (H : ∀ id, h.lim ≤ id → pops P W0 n ops N rest ⟨upd e0 d (.sv (.one (.ptr id 0 0 0))), h.new id ⟨u, zs.length, [zs], 0, true⟩⟩) :
    pops P W0 n ops N (⟨some d, .alloc u, ty1, pos1, af1, none⟩ :: rest) ⟨e0, h⟩ := by
  refine pops_to hd fun M hM => ?_
  show popAlloc P u h M
  unfold popAlloc
  rw [hz]
  show popBox u (constSlot z) h M
  unfold popBox
  rw [hzc]
  exact ⟨hpos, fun id hid => hM _ _ (H id hid)⟩

/-- The one write: from then on it is only read. -/
theorem pops_vstore {n : Nat} {ops : Array Oper} {N : St → Prop} {rest : List Oper} {e0 : Nat → Slot} {h : Hp} {d id : Nat} {u ty2 : TypeId} {pos2 : String} {af2 : Array Edge} {y : Operand} {zs ps : List PV}
    (hok : hpOk h) (hid : h.lim ≤ id) (hed : e0 d = .sv (.one (.ptr id 0 0 0))) (hy : slotCells ((⟨e0, h.new id ⟨u, zs.length, [zs], 0, true⟩⟩ : St).eval y) = some ps) (hzl : zs.length = ps.length) (hsz : szOf P u = some ps.length)
    (H : ∀ h', Same h h' → pops P W0 n ops N rest ⟨upd e0 d (.sv (.one (.rop ps))), h'⟩) :
    pops P W0 n ops N (⟨none, .store u (.tmp d) y, ty2, pos2, af2, none⟩ :: rest) ⟨e0, h.new id ⟨u, zs.length, [zs], 0, true⟩⟩ := by
  refine pops_no fun M2 hM2 => ?_
  show popStore P u (e0 d) ((⟨e0, h.new id ⟨u, zs.length, [zs], 0, true⟩⟩ : St).eval y) (h.new id ⟨u, zs.length, [zs], 0, true⟩) M2
  rw [hed]
  unfold popStore
  simp only [blk_new, hy, List.getElem?_cons_zero]
  refine ⟨trivial, hsz, by omega, hM2 _ _ ?_⟩
  have es : splice zs 0 ps = ps := by
    unfold splice
    rw [List.take_zero, List.nil_append, Nat.zero_add, List.drop_eq_nil_of_le (by omega), List.append_nil]
  have eh : (h.new id ⟨u, zs.length, [zs], 0, true⟩).set id ⟨u, zs.length, [zs].set 0 (splice zs 0 ps), 0, true⟩ = h.new id ⟨u, zs.length, [ps], 0, true⟩ := by
    rw [es]
    simp only [Hp.set, Hp.new, List.set_cons_zero]
    congr 1
    funext j
    by_cases e : j = id <;> simp [e]
  rw [eh]
  refine pops_wk (H ⟨h.blk, id + 1⟩ ⟨rfl, by simp only; omega⟩) ⟨less_new hok hid, fun w m R i v hl => ?_⟩
  simp only [upd]
  split
  · rename_i hi
    subst hi
    have hl' : LR w (h.new id ⟨u, zs.length, [ps], 0, true⟩) m (e0 i) v := hl
    rw [hed] at hl'
    exact fresh_rop hzl hok hid R hl'
  · exact hl.ext (less_new hok hid).ext

/-- A variable that is written once, at its birth: from then on it is only read. -/
theorem pops_var {n : Nat} {ops : Array Oper} {N : St → Prop} {rest : List Oper} {e0 : Nat → Slot} {h : Hp} {d : Nat} {u ty1 ty2 : TypeId} {pos1 pos2 : String} {af1 af2 : Array Edge} {y : Operand} {z : Value} {zs ps : List PV}
    (hok : hpOk h) (hd : decide (d < n) = true) (hz : zeroOf P u = some z) (hzc : slotCells (constSlot z) = some zs) (hyd : y ≠ .tmp d) (hy : slotCells ((⟨e0, h⟩ : St).eval y) = some ps) (hzl : zs.length = ps.length) (hpos : 0 < ps.length) (hsz : szOf P u = some ps.length)
    (H : ∀ h', Same h h' → pops P W0 n ops N rest ⟨upd e0 d (.sv (.one (.rop ps))), h'⟩) :
    pops P W0 n ops N (⟨some d, .alloc u, ty1, pos1, af1, none⟩ :: ⟨none, .store u (.tmp d) y, ty2, pos2, af2, none⟩ :: rest) ⟨e0, h⟩ := by
  refine pops_valloc hd hz hzc (by omega) fun id hid => ?_
  refine pops_vstore hok hid (by simp [upd]) (ps := ps) ?_ hzl hsz fun h' s' => ?_
  · rw [← hy]
    cases y with
    | tmp t => simp only [St.eval, upd]; rw [if_neg (fun e => hyd (by rw [e]))]
    | _ => rfl
  · have e : upd (upd e0 d (.sv (.one (.ptr id 0 0 0)))) d (.sv (.one (.rop ps))) = upd e0 d (.sv (.one (.rop ps))) := by
      funext i
      simp only [upd]
      split <;> rfl
    rw [e]
    exact H h' s'

/-- A new row, told as one that is only read (in a region that draws). -/
theorem fresh_row {w : World} {m : Loc} {h : Hp} {id sz : Nat} {u : TypeId} {xs : List (List PV)} {v : Value} (hok : hpOk h) (hid : h.lim ≤ id) (R : HR W0 w (h.new id ⟨u, sz, xs, 0, true⟩) m)
    (hl : VR w (h.new id ⟨u, sz, xs, 0, true⟩) m (.own id 0 0 xs.length) v) : VR w ⟨h.blk, id + 1⟩ m (.ro false sz xs) v := by
  have hb := blk_new h id ⟨u, sz, xs, 0, true⟩
  have := vr_freeze R hb rfl hl
  simp only [List.take_length] at this
  refine VR.ext this (Less.ext ⟨fun j b hb => ?_, Nat.le_refl _⟩)
  have := hok j b hb
  simp only [Hp.drop, Hp.new]
  rw [if_neg (by omega), if_neg (by omega)]
  exact hb

theorem make_ro {h0 h : Hp} {t e : TypeId} {sz by_ : Nat} {z : Value} {n : Nat} {M : Slot → Hp → Prop} (hok : hpOk h) (ht : P.underlying t = some (.slice e)) (hz : szOf P e = some sz) (hby : bytesOf' P e = some by_) (hze : zeroOf P e = some z) (hzc : z.cells.size = sz) (hza : z.cells.all (·.oneCell') = true) (hpos : 0 < sz)
    (hl : (by_ : Int) * (n : Int) ≤ 281474976710656) (hn : n ≤ 9223372036854775807) (hM : ∀ r' h' h2, SlotWk W0 h' r' h2 (.sv (.one (.ro false sz (List.replicate n (zeroCells' z))))) → Same h h2 → M r' h') :
    popMakeSlice P t (.sv (.one (.val (.int .i64 (n : Int))))) (.sv (.one (.val (.int .i64 (n : Int))))) h M := by
  unfold popMakeSlice
  simp only [ht, hz, hze, hby]
  refine ⟨hpos, hzc, hza, Int.natCast_nonneg _, Int.le_refl _, hl, by omega, fun id hid => ?_⟩
  rw [Int.toNat_natCast]
  refine hM _ _ ⟨h.blk, id + 1⟩ ⟨less_new hok hid, fun w m R v x => ?_⟩ ⟨rfl, by simp only; omega⟩
  have x' : VR w (h.new id ⟨e, sz, List.replicate n (zeroCells' z), 0, true⟩) m (.own id 0 0 (List.replicate n (zeroCells' z)).length) v := by rw [List.length_replicate]; exact x
  exact fresh_row hok hid R x'

/-- A pointer to a block of one's own, told as one of which nothing is known but that it is none of nil's. -/
theorem vr_ptr_any {w : World} {h : Hp} {m : Loc} {id i o : Nat} {b : Blk} {v : Value} (R : HR W0 w h m) (hb : h.blk id = some b) (H : VR w h m (.ptr id b.ver i o) v) : VR w ⟨fun _ => none, h.lim⟩ m (.rop []) v := by
  cases H with
  | ptr _ _ _ _ ad hid hver hbl =>
    obtain rfl := hbl b hb rfl
    exact .rop [] _ _ (fun _ => undef) (R.live id b hb).lt (fun j c hj => by cases hj) (fun j p hj => by simp at hj) (fun j p hj => by simp at hj)

end
end Go.Pw

/-
  PW, part 1: a map literal, told as a map that is only read.
-/
namespace Go.Pw
open Go Go.RowKit

theorem alloc_put (w : World) (o o' : Obj) : ({ w.alloc o with heap := (w.alloc o).heap.setIfInBounds w.heap.size o' } : World) = w.alloc o' := by
  unfold World.alloc
  have : (w.heap.push o).setIfInBounds w.heap.size o' = w.heap.push o' := by
    apply Array.ext_getElem?
    intro i
    rw [Array.getElem?_setIfInBounds, Array.getElem?_push, Array.getElem?_push, Array.size_push]
    by_cases hi : w.heap.size = i
    · rw [if_pos hi, if_pos (by omega), if_pos hi.symm]
    · rw [if_neg hi, if_neg (fun e => hi e.symm), if_neg (fun e => hi e.symm)]
  simp only [this]

/-- The operations that lay a literal's entries into its map. -/
inductive Inserts (t d : Nat) : List Oper → List (Value × Value) → Prop
  | nil : Inserts t d [] []
  | cons {ty : TypeId} {pos : String} {af : Array Edge} {k : ByteArray} {v : Value} {l : List Oper} {es : List (Value × Value)} (h : Inserts t d l es) :
      Inserts t d (⟨none, .insert t (.tmp d) (.const (.string k)) (.const v), ty, pos, af, none⟩ :: l) ((.string k, v) :: es)

/-- All keys are texts, and each differs from those before it. -/
def keysNew : List (Value × Value) → List (Value × Value) → Bool
  | _, [] => true
  | old, (k, v) :: r => (match k with | .string s => (mapGet old s).isNone | _ => false) && keysNew (old ++ [(k, v)]) r

theorem mapOk_append (a b : List (Value × Value)) : mapOk (a ++ b) = (mapOk a && mapOk b) := by simp [mapOk]

section
variable {P : Program} {W0 : World} {n : Nat} {K : Exit → St → Prop} {e : Nat → Slot} {h : Hp}

theorem run_insert {t kt et : TypeId} (h1 : P.underlying t = some (.map kt et)) (h2 : P.underlying kt = some .string) (w : World) (es : Array MapEntry) (c : Nat) (s : ByteArray) (v : Value)
    (hok : mapOk (es.toList.map fun e => (e.key, e.val)) = true) (hn : mapGet (es.toList.map fun e => (e.key, e.val)) s = none) :
    (Instr.mapUpdate t (.map (some w.heap.size)) (.string s) v).run P (w.alloc (.map es c)) = .ok () (w.alloc (.map (es.push ⟨.string s, v, c⟩) (c + 1))) := by
  have hh : (w.alloc (.map es c)).heap[w.heap.size]? = some (.map es c) := heap_alloc_new w _
  obtain ⟨r, hr1, hr2⟩ := findNow_str s es.toList 0 hok
  rw [hn] at hr2
  have hr : r = none := by cases r <;> simp at hr2 ⊢
  subst hr
  have hgo : (getObj w.heap.size).run P (w.alloc (.map es c)) = .ok (.map es c) (w.alloc (.map es c)) := by simp only [getObj, Sem.run, hh]
  have hso : (setObj w.heap.size (.map (es.push ⟨.string s, v, c⟩) (c + 1))).run P (w.alloc (.map es c)) = .ok () (w.alloc (.map (es.push ⟨.string s, v, c⟩) (c + 1))) := by
    have e := alloc_put w (.map es c) (.map (es.push ⟨.string s, v, c⟩) (c + 1))
    simp only [setObj, Sem.run, hh]
    rw [e]
  have hck := run_checkKey_str (P := P) h2 false s (w.alloc (.map es c))
  have hfk : (Instr.findKey kt (.string s) es.toList).run P (w.alloc (.map es c)) = .ok none (w.alloc (.map es c)) := by
    simp only [Instr.findKey, Sem.run_bind, run_underlying h2, Result.andThen_ok, hr1, Sem.run_pure]
  simp only [Instr.mapUpdate, Sem.run_bind, run_underlying h1, Result.andThen_ok, hgo, hck, hfk, hso]

theorem inserts_ok {t d kt et : TypeId} (h1 : P.underlying t = some (.map kt et)) (h2 : P.underlying kt = some .string) {ops : Array Oper} {Q : Exit → Act → World → Prop} {a : Act} {w : World} {rest : List Oper} (ha : a.eval (.tmp d) = .map (some w.heap.size)) :
    ∀ {l : List Oper} {es : List (Value × Value)}, Inserts t d l es → ∀ (ents : Array MapEntry) (c : Nat), mapOk (ents.toList.map fun e => (e.key, e.val)) = true → mapOk es = true → keysNew (ents.toList.map fun e => (e.key, e.val)) es = true →
      (∀ (ents' : Array MapEntry) (c' : Nat), (ents'.toList.map fun e => (e.key, e.val)) = (ents.toList.map fun e => (e.key, e.val)) ++ es → wpList P ops Q rest a (w.alloc (.map ents' c'))) →
      wpList P ops Q (l ++ rest) a (w.alloc (.map ents c))
  | _, _, .nil, ents, c, _, _, _, H => H ents c (by simp)
  | _, _, .cons (k := k) (v := v) (l := l) (es := es) hi, ents, c, hok, hok2, hkn, H => by
    simp only [mapOk, List.all_cons, Bool.and_eq_true] at hok2
    simp only [keysNew, Bool.and_eq_true, Option.isNone_iff_eq_none] at hkn
    rw [List.cons_append]
    refine wpList_step fun K hK => ?_
    rw [if_pos (by simp [Region.wanted])]
    refine Runs.wp (S := fun _ w' => w' = w.alloc (.map (ents.push ⟨.string k, v, c⟩) (c + 1))) (Runs.skip (w' := w.alloc (.map (ents.push ⟨.string k, v, c⟩) (c + 1))) ?_ rfl) ?_
    · have := run_insert (P := P) h1 h2 w ents c k v hok hkn.1
      simp only [execOp, Sem.run_bind, ha, show a.eval (.const (.string k)) = .string k from rfl, show a.eval (.const v) = v from rfl, this, Result.andThen_ok, Sem.run_pure]
    · rintro v' w' rfl
      refine hK _ _ (inserts_ok h1 h2 ha hi _ _ ?_ hok2.2 ?_ fun ents' c' he => H ents' c' ?_)
      · simp only [Array.toList_push, List.map_append, List.map_cons, List.map_nil, mapOk_append, hok, Bool.true_and]
        simp [mapOk, hok2.1]
      · simpa using hkn.2
      · rw [he]; simp

/-- A map literal whose keys are texts. -/
theorem pwp_mapLit (k : Nat) {id d : Nat} {t kt et ty : TypeId} {pos : String} {af : Array Edge} {l : List Oper} {es : List (Value × Value)} (hl : l.head? = some ⟨some d, .makeMap t none, ty, pos, af, none⟩) (hd : decide (d < n) = true)
    (h1 : P.underlying t = some (.map kt et)) (h2 : P.underlying kt = some .string) (hi : Inserts t d ((l.drop 1).take k) es) (hok : mapOk es = true) (hkn : keysNew [] es = true)
    (H : ∀ M : St → Prop, (∀ σ, K .normal σ → M σ) → pops P W0 n l.toArray M ((l.drop 1).drop k) ⟨upd e d (.sv (.one (.mp es))), h⟩) : PWP P W0 n (.region id l.toArray false) K ⟨e, h⟩ := by
  intro we he me a w m R
  refine wp_region_lit ?_
  have H := H _ fun _ x => x
  generalize l.toArray = ops at H ⊢
  have hl2 : l = ⟨some d, .makeMap t none, ty, pos, af, none⟩ :: ((l.drop 1).take k ++ (l.drop 1).drop k) := by
    rw [List.take_append_drop]
    cases l with
    | nil => cases hl
    | cons a l => obtain rfl := Option.some.inj hl; rfl
  rw [hl2]
  refine wpList_step fun K' hK => ?_
  rw [if_pos (by simp [Region.wanted])]
  refine Runs.wp (S := fun v w' => v = .map (some w.heap.size) ∧ w' = w.alloc (.map #[] 0)) (Runs.value (v := .map (some w.heap.size)) (w' := w.alloc (.map #[] 0)) (by simp [execOp, Instr.makeMap]) ⟨rfl, rfl⟩) ?_
  rintro v w' ⟨rfl, rfl⟩
  have hd' : d < n := of_decide_eq_true hd
  refine hK _ _ (inserts_ok h1 h2 (by simp [Act.put, Act.eval, Array.getD, R.size, hd']) hi #[] 0 rfl hok hkn fun ents c hes => ?_)
  have hB : Below w.heap.size w (w.alloc (.map ents c)) := (Below.refl _ w).alloc (Nat.le_refl _) _
  have R' := R.step (d := some d) (R.hr.grow hB) (Ext.grow hB) (r := .sv (.one (.mp es))) (v := .map (some w.heap.size)) (.mp es w.heap.size c ents (by rw [alloc_heap]; simp) (fun id b hb e => by have := (R.hr.live id b hb).lt; omega) (heap_alloc_new w _) (by simpa using hes)) hd
  exact pops_ok _ _ _ _ _ R' H fun σ a w m hn hr => ⟨σ, m, hn, hr⟩

end
end Go.Pw

/-
  PW, part 2: a strings.Builder of one's own.
-/
namespace Go.Pw
open Go Go.RowKit

/-- A builder's block. -/
abbrev bldBlk (tb : TypeId) (a buf : PV) : Blk := ⟨tb, 2, [[a, buf]], 0, true⟩

/-- A builder in a block that is not of h0, with what its two cells hold; it holds these bytes. -/
structure BldU (tb t8 : TypeId) (h0 hp : Hp) (id : Nat) (a buf : PV) (l : List UInt8) : Prop where
  lim : h0.lim ≤ id
  keeps : Keeps (h0.new id (bldBlk tb a buf)) hp
  row : RowIs t8 1 (h0.new id (bldBlk tb a buf)) hp (.sv (.one buf)) (l.map byteCell)
  nilE : l = [] → buf = .val (.slice none 0 0)

def Bld (tb t8 : TypeId) (h0 hp : Hp) (id : Nat) (l : List UInt8) : Prop :=
  ∃ a buf, (a = .val (.pointer none) ∨ a = .ptr id 0 0 0) ∧ BldU tb t8 h0 hp id a buf l

section
variable {P : Program} {W0 : World} {tb t8 : TypeId} {h0 hp : Hp} {id : Nat} {a buf : PV} {l : List UInt8}

theorem BldU.blk (B : BldU tb t8 h0 hp id a buf l) : hp.blk id = some (bldBlk tb a buf) := B.keeps.1 _ _ (blk_new _ _ _)

theorem new_ok (hb : hpOk h0) (hid : h0.lim ≤ id) (b : Blk) : hpOk (h0.new id b) := fun j c hj => by
  by_cases e : j = id
  · subst e; simp only [Hp.new]; omega
  · simp only [Hp.new, if_neg e] at hj ⊢
    have := hb j c hj
    omega

theorem keeps_back (hb : hpOk h0) (hid : h0.lim ≤ id) {b : Blk} (K : Keeps (h0.new id b) hp) : Keeps h0 hp := (Keeps.new hb hid).trans K

theorem BldU.old (hb : hpOk h0) (B : BldU tb t8 h0 hp id a buf l) : Keeps h0 hp := keeps_back hb B.lim B.keeps

theorem Bld.old (hb : hpOk h0) (B : Bld tb t8 h0 hp id l) : Keeps h0 hp := by
  obtain ⟨a, buf, _, B⟩ := B
  exact B.old hb

/-- A fresh builder. -/
theorem Bld.fresh {hq : Hp} (K : Keeps h0 hq) (hid : hq.lim ≤ id) : Bld tb t8 h0 (hq.new id (bldBlk tb (.val (.pointer none)) (.val (.slice none 0 0)))) id [] := by
  refine ⟨_, _, .inl rfl, ⟨Nat.le_trans K.2 hid, ⟨fun j c hj => ?_, Nat.le_refl _⟩, .nil _ _ _ _, fun _ => rfl⟩⟩
  simp only [Hp.new] at hj ⊢
  split
  · rename_i e; rw [if_pos e] at hj; exact hj
  · rename_i e; rw [if_neg e] at hj; exact K.1 j c hj

theorem row_over {h1 h2 hp hq : Hp} {e : TypeId} {sz : Nat} {sl : Slot} {xs : List (List PV)} (hl : h1.lim = h2.lim) (O : RowIs e sz h1 hp sl xs) (hk : ∀ j b, h1.lim ≤ j → hp.blk j = some b → hq.blk j = some b) : RowIs e sz h2 hq sl xs := by
  rcases O with ⟨x, y⟩ | ⟨i, ver, es, x, y, z, u⟩
  · exact .inl ⟨x, y⟩
  · exact .inr ⟨i, ver, es, x, by rw [← hl]; exact y, hk _ _ y z, u⟩

/-- A write into one of the builder's two cells. -/
theorem BldU.put (B : BldU tb t8 h0 hp id a buf l) (a' : PV) : BldU tb t8 h0 (hp.set id (bldBlk tb a' buf)) id a' buf l := by
  refine ⟨B.lim, ⟨fun j c hj => ?_, B.keeps.2⟩, row_over rfl B.row fun j c h1 h2 => ?_, B.nilE⟩
  · have := B.keeps.1 j c
    simp only [Hp.new, Hp.set] at hj this ⊢
    split
    · rename_i e; rw [if_pos e] at hj; exact hj
    · rename_i e; rw [if_neg e] at hj this; exact this hj
  · simp only [Hp.new, Hp.set] at h1 ⊢
    rw [if_neg (by omega)]; exact h2

theorem bld_buf {hq : Hp} {buf' : PV} {l' : List UInt8} (hnil : l' = [] → buf' = .val (.slice none 0 0)) (hid : h0.lim ≤ id) (K : Keeps (h0.new id (bldBlk tb a buf)) hq) (O : RowIs t8 1 (h0.new id (bldBlk tb a buf)) hq (.sv (.one buf')) (l'.map byteCell)) :
    BldU tb t8 h0 (hq.set id (bldBlk tb a buf')) id a buf' l' := by
  refine ⟨hid, ⟨fun j c hj => ?_, K.2⟩, row_over rfl O fun j c h1 h2 => ?_, hnil⟩
  · have := K.1 j c
    simp only [Hp.new, Hp.set] at hj this ⊢
    split
    · rename_i e; rw [if_pos e] at hj; exact hj
    · rename_i e; rw [if_neg e] at hj this; exact this hj
  · simp only [Hp.new, Hp.set] at h1 ⊢
    rw [if_neg (by omega)]; exact h2

theorem RowIs.one {e : TypeId} {sz : Nat} {sl : Slot} {xs : List (List PV)} (O : RowIs e sz h0 hp sl xs) : ∃ p, sl = .sv (.one p) := by
  rcases O with ⟨rfl, _⟩ | ⟨_, _, _, rfl, _⟩ <;> exact ⟨_, rfl⟩

/-- The buffer is read. -/
theorem bld_load {ts : TypeId} {d : TypeDesc} {N : Slot → Hp → Prop} (hd : P.underlying ts = some d) (ha : isAggD d = false) (B : BldU tb t8 h0 hp id a buf l) (H : N (.sv (.one buf)) hp) : popLoad P W0 ts (.sv (.one (.ptr id 0 0 1))) hp N := by
  unfold popLoad
  simp only [B.blk, List.getElem?_cons_zero, List.drop_succ_cons, List.drop_zero]
  refine ⟨trivial, ?_⟩
  unfold loadK
  simp only [hd, ha, Bool.false_eq_true, if_false]
  exact H

/-- .. is made longer. -/
theorem bld_app {N : Slot → Hp → Prop} {t : TypeId} {src : Slot} {sz' : Nat} {x : List UInt8} {z : Value} {by_ : Nat} (hb : hpOk h0) (ht : P.underlying t = some (.slice t8)) (hz : szOf P t8 = some 1) (hby : bytesOf' P t8 = some by_) (hze : zeroOf P t8 = some z) (hzc : z.cells.size = 1)
    (B : BldU tb t8 h0 hp id a buf l) (hx0 : x ≠ []) (hs : srcOf hp src = some (sz', x.map byteCell)) (hss : x = [] ∨ sz' = 1) (hl : appendLim (l.length + x.length) by_)
    (H : ∀ buf' hq, (∀ N' : Slot → Hp → Prop, ∀ ts, szOf P ts = some 1 → (∀ hq', BldU tb t8 h0 hq' id a buf' (l ++ x) → N' (.tup []) hq') → popStore P ts (.sv (.one (.ptr id 0 0 1))) (.sv (.one buf')) hq N') → N (.sv (.one buf')) hq) : popAppend P t (.sv (.one buf)) src hp N := by
  refine row_app (new_ok hb B.lim _) ht hz hby hze hzc (by decide) B.row B.keeps hs (by rcases hss with h | h; exact .inl (by rw [h]; rfl); exact .inr h) (by simpa using hl) fun sl' hq O K => ?_
  obtain ⟨buf', rfl⟩ := O.one
  rw [← List.map_append] at O
  refine H buf' hq fun N' ts hts H' => ?_
  unfold popStore
  have hblk : hq.blk id = some (bldBlk tb a buf) := K.1 _ _ (blk_new _ _ _)
  simp only [hblk, List.getElem?_cons_zero, slotCells]
  refine ⟨trivial, hts, by simp, H' _ ?_⟩
  exact bld_buf (fun e => absurd (List.append_eq_nil_iff.1 e).2 hx0) B.lim K O

/-- .. by a text. -/
theorem bld_appS {N : Slot → Hp → Prop} {t : TypeId} {x : List UInt8} {z : Value} {by_ : Nat} (hb : hpOk h0) (ht : P.underlying t = some (.slice t8)) (hz : szOf P t8 = some 1) (hby : bytesOf' P t8 = some by_) (hze : zeroOf P t8 = some z) (hzc : z.cells.size = 1)
    (B : BldU tb t8 h0 hp id a buf l) (hl : appendLim (l.length + x.length) by_)
    (H : ∀ buf' hq, (∀ N' : Slot → Hp → Prop, ∀ ts, szOf P ts = some 1 → (∀ hq', BldU tb t8 h0 hq' id a buf' (l ++ x) → N' (.tup []) hq') → popStore P ts (.sv (.one (.ptr id 0 0 1))) (.sv (.one buf')) hq N') → N (.sv (.one buf')) hq) : popAppendStr P t (.sv (.one buf)) (.sv (.one (pstr x))) hp N := by
  by_cases hx0 : x = []
  · subst hx0
    by_cases hl0 : l = []
    · obtain rfl := B.nilE hl0
      subst hl0
      unfold popAppendStr
      simp only [ht, hz, hby, hze]
      refine ⟨trivial, hzc, by simpa [str_size] using hl, fun _ => ?_, fun h => absurd rfl h⟩
      refine H _ _ fun N' ts hts H' => ?_
      unfold popStore
      simp only [B.blk, List.getElem?_cons_zero, slotCells]
      exact ⟨trivial, hts, by simp, H' _ (bld_buf (fun _ => rfl) B.lim B.keeps B.row)⟩
    · refine row_appS (new_ok hb B.lim _) ht hz hby hze hzc B.row B.keeps hl fun sl' hq O K => ?_
      obtain ⟨buf', rfl⟩ := O.one
      refine H buf' hq fun N' ts hts H' => ?_
      unfold popStore
      have hblk : hq.blk id = some (bldBlk tb a buf) := K.1 _ _ (blk_new _ _ _)
      simp only [hblk, List.getElem?_cons_zero, slotCells]
      exact ⟨trivial, hts, by simp, H' _ (bld_buf (fun e => absurd (List.append_eq_nil_iff.1 e).1 hl0) B.lim K O)⟩
  · refine row_appS (new_ok hb B.lim _) ht hz hby hze hzc B.row B.keeps hl fun sl' hq O K => ?_
    obtain ⟨buf', rfl⟩ := O.one
    refine H buf' hq fun N' ts hts H' => ?_
    unfold popStore
    have hblk : hq.blk id = some (bldBlk tb a buf) := K.1 _ _ (blk_new _ _ _)
    simp only [hblk, List.getElem?_cons_zero, slotCells]
    exact ⟨trivial, hts, by simp, H' _ (bld_buf (fun e => absurd (List.append_eq_nil_iff.1 e).2 hx0) B.lim K O)⟩

end
end Go.Pw
