/-
  PW, part Y: a loop over a text's runes.
-/
import Derived.Test.YtjhgmempnhjflaaDoorPwS
import Derived.Lib.OthersKept
namespace Go.Pw
open Go Go.RowKit

section
variable {P : Program} {W0 : World} {n : Nat} {K : Exit → St → Prop} {σ : St} {ops : Array Oper}

/-- As 'pops_ok', with a rest behind. -/
theorem pops_ok_app {N : St → Prop} {we : World} {he : Hp} {me : Loc} {Q : Exit → Act → World → Prop} {r : List Oper} : ∀ (l : List Oper) (σ : St) (a : Act) (w : World) (m : Loc), Rel W0 we he me n σ a w m → pops P W0 n ops N l σ →
    (∀ σ a w m, N σ → Rel W0 we he me n σ a w m → wpList P ops Q r a w) → wpList P ops Q (l ++ r) a w
  | [], σ, a, w, m, R, H, hq => by
    obtain ⟨σ', k, H⟩ := H
    exact hq σ' a w m H (R.wk k)
  | o :: rest, σ0, a, w, m, R0, H, hq => by
    obtain ⟨σ, k, hd, H⟩ := H
    have R := R0.wk k
    have yes : pop P W0 σ o (fun r h => pops P W0 n ops N rest (St.put ⟨σ.env, h⟩ o.dst r)) → Region.wanted o (yielded ops a.tmps) = true → wpList P ops Q (o :: rest ++ r) a w := by
      intro hk hw
      refine wpList_step fun K hK => ?_
      rw [if_pos hw]
      refine (pop_ok R hk).wp ?_
      rintro v w' ⟨r', h', m', h1, h2, h3, h4⟩
      exact hK _ _ (pops_ok_app rest _ _ _ _ (R.step h3 h4 h2 hd) h1 hq)
    have no : pops P W0 n ops N rest (σ.put o.dst (.tup [])) → Region.wanted o (yielded ops a.tmps) = false → wpList P ops Q (o :: rest ++ r) a w := by
      intro hk hw
      refine wpList_step fun K hK => ?_
      rw [if_neg (by simp [hw])]
      exact hK _ _ (pops_ok_app rest _ _ _ _ (R.step (h' := σ.hp) R.hr (Ext.refl _ _ _) (LR.undef _ _ _) hd) hk hq)
    cases hv : wantV ops σ.env o with
    | none =>
      unfold wantP at H
      unfold wantV at hv
      split at H
      · rename_i hg; simp [hg] at hv
      · rename_i j want hg
        rw [hg] at hv
        simp only at hv
        split at H
        · rename_i hn; simp [hn] at hv
        · rename_i d hs
          rw [hs] at hv
          simp only at hv
          split at H
          · rename_i b e; simp [e] at hv
          · rename_i e; simp [e] at hv
          · exact H.elim
    | some b =>
      have hw := wanted_of R hv
      have key : wantP ops σ o (pop P W0 σ o fun r h => pops P W0 n ops N rest (St.put ⟨σ.env, h⟩ o.dst r)) (pops P W0 n ops N rest (σ.put o.dst (.tup []))) →
          (b = true → pop P W0 σ o fun r h => pops P W0 n ops N rest (St.put ⟨σ.env, h⟩ o.dst r)) ∧ (b = false → pops P W0 n ops N rest (σ.put o.dst (.tup []))) := by
        intro H
        unfold wantP at H
        unfold wantV at hv
        split at H
        · rename_i hg
          simp only [hg, Option.some.injEq] at hv
          subst hv
          exact ⟨fun _ => H, fun h => by cases h⟩
        · rename_i j want hg
          rw [hg] at hv
          simp only at hv
          split at H
          · rename_i hn
            simp only [hn, Option.some.injEq] at hv
            subst hv
            exact ⟨fun h => (by cases h), fun _ => H⟩
          · rename_i d hs
            rw [hs] at hv
            simp only at hv
            split at H
            · rename_i c e
              simp only [e, Option.some.injEq] at hv
              subst hv
              exact ⟨fun h => H.1 (by simpa using h), fun h => H.2 (by simpa using h)⟩
            · rename_i e
              simp only [e, Option.some.injEq] at hv
              subst hv
              exact ⟨fun h => (by cases h), fun _ => H⟩
            · exact H.elim
      have H' := key H
      cases b with
      | true => exact yes (H'.1 rfl) hw
      | false => exact no (H'.2 rfl) hw

/-- Values, where an iterator moved on. -/
theorem VR.iterAt {w : World} {h : Hp} {m : Loc} {k pos pos' : Nat} {s : ByteArray} (hk : w.heap[k]? = some (.stringIter s pos)) {p : PV} {v : Value} (H : VR w h m p v) : VR (w.iterAt k s pos') h m p v := by
  have hcell : ∀ {a : Addr} {v : Value}, w.cell? a = some v → (w.iterAt k s pos').cell? a = some v := by
    intro a v hc
    unfold World.cell? at hc ⊢
    by_cases e : a.block = k
    · rw [e, hk] at hc; simp at hc
    · rw [Lib.iterAt_other _ _ _ _ _ e]; exact hc
  induction H with
  | val v h1 => exact .val v h1
  | any v h1 => exact .any v h1
  | ro0 full sz a c hc => exact .ro0 full sz a c hc
  | ro full sz xs g off c n vs hn hc hnc hg hav hlen hcell' hvs ih =>
    exact .ro full sz xs g off c n vs hn hc hnc (by rw [Lib.iterAt_size]; exact hg) hav hlen (fun i es j p a b => hcell (hcell' i es j p a b)) (fun i es j p a b => ih i es j p a b)
  | rop cs g off vs hg hav hcell' hvs ih => exact .rop cs g off vs (by rw [Lib.iterAt_size]; exact hg) hav (fun j p a => hcell (hcell' j p a)) (fun j p a => ih j p a)
  | own id ver off len ad c hid hv hb => exact .own id ver off len ad c hid hv hb
  | ptr id ver i o ad hid hv hb => exact .ptr id ver i o ad hid hv hb
  | clo fn caps vs hl hvs ih => exact .clo fn caps vs hl fun j p v a b => ih j p v a b

theorem SVR.iterAt {w : World} {h : Hp} {m : Loc} {k pos pos' : Nat} {s : ByteArray} (hk : w.heap[k]? = some (.stringIter s pos)) {p : SV} {v : Value} (H : SVR w h m p v) : SVR (w.iterAt k s pos') h m p v := by
  cases p with
  | one p => exact VR.iterAt hk H
  | agg ps => obtain ⟨vs, a, b, c⟩ := H; exact ⟨vs, a, b, fun j p u x y => VR.iterAt hk (c j p u x y)⟩

theorem LR.iterAt {w : World} {h : Hp} {m : Loc} {k pos pos' : Nat} {s : ByteArray} (hk : w.heap[k]? = some (.stringIter s pos)) {p : Slot} {v : Value} (H : LR w h m p v) : LR (w.iterAt k s pos') h m p v := by
  cases p with
  | sv p => exact SVR.iterAt hk H
  | tup ps => obtain ⟨vs, a, b, c⟩ := H; exact ⟨vs, a, b, fun j p u x y => SVR.iterAt hk (c j p u x y)⟩
  | any => trivial

theorem Rel.iterAt {we w : World} {he : Hp} {me m : Loc} {a : Act} {k pos pos' : Nat} {s : ByteArray} (R : Rel W0 we he me n σ a w m) (hk : w.heap[k]? = some (.stringIter s pos)) (hwe : we.heap.size ≤ k) (hW0 : W0.heap.size ≤ k)
    (hav : ∀ id b, σ.hp.blk id = some b → (m id).1 ≠ k) : Rel W0 we he me n σ a (w.iterAt k s pos') m := by
  refine ⟨⟨Lib.below_iterAt R.hr.below hW0 _ _, R.hr.bound, R.hr.far, fun id b hb => ?_, R.hr.inj⟩, ⟨?_, R.ext.lim, fun g hg hav' => ?_, R.ext.keep⟩, R.size, R.defers, fun i => LR.iterAt hk (R.env i)⟩
  · obtain ⟨h0, cur, fr, h1, h2, h3, h4, h5, h6, h7⟩ := R.hr.live id b hb
    refine ⟨h0, cur, fr, by rw [Lib.iterAt_other _ _ _ _ _ (hav id b hb)]; exact h1, h2, h3, h4, h5, h6, fun i es hi => ⟨(h7 i es hi).1, fun j p hj => ?_⟩⟩
    obtain ⟨v, hv, hr⟩ := (h7 i es hi).2 j p hj
    exact ⟨v, hv, VR.iterAt hk hr⟩
  · rw [Lib.iterAt_size]; exact R.ext.size
  · obtain ⟨a1, a2⟩ := R.ext.ro g hg hav'
    exact ⟨by rw [Lib.iterAt_other _ _ _ _ _ (by omega)]; exact a1, a2⟩

theorem utf8_width (s : ByteArray) (pos : Nat) : 1 ≤ (Utf8.decode s pos).2 := by
  unfold Utf8.decode
  dsimp only
  repeat' split
  all_goals (first | exact Nat.le_refl _ | exact Nat.le_of_ble_eq_true rfl)

/-- The bytes of a rune that begins with a high byte are high. -/
theorem decode_span (s : ByteArray) (pos : Nat) (h : pos < s.size) (hb : 128 ≤ (s.get! pos).toNat) : ∀ k, k < (Utf8.decode s pos).2 → pos + k < s.size ∧ 128 ≤ (s.get! (pos + k)).toNat := by
  have key : ∀ k, (decide (pos + k < s.size) && (s.get! (pos + k)).toNat / 64 == 2) = true → pos + k < s.size ∧ 128 ≤ (s.get! (pos + k)).toNat := fun k hk => by
    simp only [Bool.and_eq_true, decide_eq_true_eq, beq_iff_eq] at hk
    exact ⟨hk.1, by omega⟩
  have k0 : ∀ k, k < 1 → pos + k < s.size ∧ 128 ≤ (s.get! (pos + k)).toNat := fun k hk => by
    obtain rfl : k = 0 := by omega
    exact ⟨h, hb⟩
  unfold Utf8.decode
  dsimp only
  split
  · exact k0
  split
  · rename_i hc
    rw [Bool.and_eq_true] at hc
    split
    · intro k hk
      obtain h0 | rfl : k < 1 ∨ k = 1 := by simp only at hk; omega
      · exact k0 k h0
      · exact key 1 hc.2
    · exact k0
  split
  · rename_i hc
    simp only [Bool.and_eq_true (_ && _) _] at hc
    split
    · intro k hk
      obtain h0 | rfl | rfl : k < 1 ∨ k = 1 ∨ k = 2 := by simp only at hk; omega
      · exact k0 k h0
      · exact key 1 (by have := hc.1; simp only [Bool.and_eq_true] at this ⊢; exact this.2)
      · exact key 2 hc.2
    · exact k0
  split
  · rename_i hc
    simp only [Bool.and_eq_true (_ && _) _] at hc
    split
    · intro k hk
      obtain h0 | rfl | rfl | rfl : k < 1 ∨ k = 1 ∨ k = 2 ∨ k = 3 := by simp only at hk; omega
      · exact k0 k h0
      · exact key 1 (by have := hc.1; simp only [Bool.and_eq_true] at this ⊢; exact this.1.2)
      · exact key 2 (by have := hc.1; simp only [Bool.and_eq_true] at this ⊢; exact this.2)
      · exact key 3 hc.2
    · exact k0
  · exact k0

abbrev itAt (k : Nat) : Slot := .sv (.one (.val (.pointer (some ⟨k, 0, none⟩))))

/-- A loop over a text's runes: 'I': what holds at each round's head; 'pos': how far the loop has come. -/
theorem pwp_range_str {rid b r t d d1 : Nat} {l : List Oper} {x : Operand} {ty ty0 ty1 ty2 : TypeId} {pos0 pos1 pos2 : String} {af0 af1 af2 : Array Edge} {rest : Code}
    (ht : decide (t < n) = true) (hd : decide (d < n) = true) (hd1 : decide (d1 < n) = true) (hne : decide (d1 ≠ d) = true) (hty : P.underlying ty = some .string)
    (H : pops P W0 n (l ++ [(⟨some t, .range ty x, ty0, pos0, af0, none⟩ : Oper)]).toArray (fun σ1 => ∃ s : ByteArray, σ1.eval x = .sv (.one (.val (.string s))) ∧ ∀ k, ∃ I : Nat → St → Prop,
      (∃ σ2, Wk W0 (σ1.put (some t) (itAt k)) σ2 ∧ σ2.env t = itAt k ∧ I 0 σ2) ∧ ∀ (pos : Nat) (e : Nat → Slot) (hp : Hp), e t = itAt k → I pos ⟨e, hp⟩ →
        (pos < s.size → PWP P W0 n rest (thenK (fun σ3 => ∃ σ4, Wk W0 σ3 σ4 ∧ σ4.env t = itAt k ∧ I (pos + (Utf8.decode s pos).2) σ4) (blockK b K))
          ⟨upd (upd e d (.tup [.one (.val (.bool true)), .one (.val (.int .i64 pos)), .one (.val (.int .i32 (Utf8.decode s pos).1))])) d1 (.sv (.one (.val (.bool true)))), hp⟩) ∧
        (¬ pos < s.size → PWP P W0 n rest (thenK (fun _ => False) (blockK b K)) ⟨upd (upd e d (.tup [.one (.val (.bool false))])) d1 (.sv (.one (.val (.bool false)))), hp⟩)) l σ) :
    PWP P W0 n (.seq (.region rid (l ++ [(⟨some t, .range ty x, ty0, pos0, af0, none⟩ : Oper)]).toArray false) (.block b (.loop (.seq (.region r #[⟨some d, .next (.tmp t) true, ty1, pos1, af1, none⟩, ⟨some d1, .extract (.tmp d) 0, ty2, pos2, af2, none⟩] false) rest)))) K σ := by
  intro we he me a w m R
  have ht' : t < n := of_decide_eq_true ht
  have hd' : d < n := of_decide_eq_true hd
  have hd1' : d1 < n := of_decide_eq_true hd1
  have hne' : d1 ≠ d := of_decide_eq_true hne
  refine wp_seq (wp_region_lit (pops_ok_app l σ a w m R H ?_))
  rintro σ1 a1 w1 m1 ⟨s, hx, hI⟩ R1
  have hv : a1.eval x = .string s := by
    have := R1.eval x
    rw [hx] at this
    generalize a1.eval x = q at this ⊢
    cases this
    rfl
  -- the iterator is made
  refine wpList_step fun K0 hK0 => ?_
  rw [if_pos (by simp [Region.wanted])]
  have hrun : Runs P ⟨some t, .range ty x, ty0, pos0, af0, none⟩ a1.eval w1 (fun v w' => v = .pointer (some ⟨w1.heap.size, 0, none⟩) ∧ w' = w1.iter s 0) :=
    Runs.value (by simp only [execOp, hv, Sem.run_bind, run_range_string w1 ty s hty, Result.andThen_ok, Sem.run_pure]) ⟨rfl, rfl⟩
  refine hrun.wp ?_
  rintro v w2 ⟨rfl, rfl⟩
  refine hK0 _ _ ?_
  obtain ⟨I, ⟨σ2, hwk, hit, hI0⟩, hround⟩ := hI w1.heap.size
  have hB : Below w1.heap.size w1 (w1.iter s 0) := below_alloc w1 _
  have R2 : Rel W0 we he me n (σ1.put (some t) (itAt w1.heap.size)) (a1.put (some t) (.pointer (some ⟨w1.heap.size, 0, none⟩))) (w1.iter s 0) m1 :=
    R1.step (h' := σ1.hp) (R1.hr.grow hB) (Ext.grow hB) (.val _ rfl) ht
  have R3 := R2.wk hwk
  have hwe : we.heap.size ≤ w1.heap.size := R1.ext.size
  have hW0 : W0.heap.size ≤ w1.heap.size := R1.hr.below.size
  have hfree : ∀ id bl, σ2.hp.blk id = some bl → (m1 id).1 ≠ w1.heap.size := fun id bl hb => by
    have := (R1.hr.live id bl (hwk.less.1 id bl hb)).lt
    omega
  refine wp_block (wp_mono (wp_loop_ghost (fun (g : Nat) a w => ∃ σ m pos, g = s.size - pos ∧ I pos σ ∧ σ.env t = itAt w1.heap.size ∧ Rel W0 we he me n σ a w m ∧ w.heap[w1.heap.size]? = some (.stringIter s pos) ∧ ∀ id bl, σ.hp.blk id = some bl → (m id).1 ≠ w1.heap.size) s.size
    (Q := fun e a w => ∃ σ' m', blockK b K e σ' ∧ Rel W0 we he me n σ' a w m')
    ⟨σ2, m1, 0, rfl, hI0, hit, R3, World.iter_heap w1 s 0, hfree⟩ ?_) ?_)
  · rintro g a w ⟨⟨e, hp⟩, m, pos, rfl, hI, hte, R, hk, hav⟩
    have hta : a.eval (.tmp t) = .pointer (some ⟨w1.heap.size, 0, none⟩) := by
      have := R.eval (.tmp t)
      have hte' : (⟨e, hp⟩ : St).eval (.tmp t) = itAt w1.heap.size := hte
      rw [hte'] at this
      generalize a.eval (.tmp t) = q at this ⊢
      cases this
      rfl
    have hr2 := hround pos e hp hte hI
    refine wp_seq (wp_region_lit (wpList_step fun K1 hK1 => ?_))
    rw [if_pos (by simp [Region.wanted])]
    by_cases hlt : pos < s.size
    · have hrun : Runs P ⟨some d, .next (.tmp t) true, ty1, pos1, af1, none⟩ a.eval w (fun v w' => v = .tuple #[.bool true, .int .i64 pos, .int .i32 (Utf8.decode s pos).1] ∧ w' = w.iterAt w1.heap.size s (pos + (Utf8.decode s pos).2)) :=
        Runs.value (by simp only [execOp, hta, Sem.run_bind, Lib.run_next_any_at w _ s pos ty1 hk hlt, Result.andThen_ok, Sem.run_pure]) ⟨rfl, rfl⟩
      refine hrun.wp ?_
      rintro v w' ⟨rfl, rfl⟩
      refine hK1 _ _ (wpList_step fun K2 hK2 => ?_)
      rw [if_pos (by simp [Region.wanted])]
      have R' := (R.iterAt (pos' := pos + (Utf8.decode s pos).2) hk hwe hW0 hav).step (h' := hp) (d := some d) (r := .tup [.one (.val (.bool true)), .one (.val (.int .i64 pos)), .one (.val (.int .i32 (Utf8.decode s pos).1))])
        (v := .tuple #[.bool true, .int .i64 pos, .int .i32 (Utf8.decode s pos).1]) (R.iterAt hk hwe hW0 hav).hr (Ext.refl _ _ _) ⟨[.bool true, .int .i64 pos, .int .i32 (Utf8.decode s pos).1], rfl, rfl, fun j sv u h1 h2 => by
          match j, h1, h2 with
          | 0, h1, h2 => obtain rfl := Option.some.inj h1; obtain rfl := Option.some.inj h2; exact .val _ rfl
          | 1, h1, h2 => obtain rfl := Option.some.inj h1; obtain rfl := Option.some.inj h2; exact .val _ rfl
          | 2, h1, h2 => obtain rfl := Option.some.inj h1; obtain rfl := Option.some.inj h2; exact .val _ rfl⟩ hd
      have hev : (a.put (some d) (.tuple #[.bool true, .int .i64 pos, .int .i32 (Utf8.decode s pos).1])).eval (.tmp d) = .tuple #[.bool true, .int .i64 pos, .int .i32 (Utf8.decode s pos).1] := by
        simp [Act.eval, Act.put, R.size, hd']
      have hrun2 : Runs P ⟨some d1, .extract (.tmp d) 0, ty2, pos2, af2, none⟩ (a.put (some d) (.tuple #[.bool true, .int .i64 pos, .int .i32 (Utf8.decode s pos).1])).eval (w.iterAt w1.heap.size s (pos + (Utf8.decode s pos).2))
          (fun v w' => v = .bool true ∧ w' = w.iterAt w1.heap.size s (pos + (Utf8.decode s pos).2)) :=
        Runs.value (by simp only [execOp, hev]; rfl) ⟨rfl, rfl⟩
      refine hrun2.wp ?_
      rintro v w' ⟨rfl, rfl⟩
      refine hK2 _ _ (wpList_nil ?_)
      have R'' := R'.step (h' := hp) (d := some d1) (r := .sv (.one (.val (.bool true)))) (v := .bool true) R'.hr (Ext.refl _ _ _) (.val _ rfl) hd1
      have hk' : (w.iterAt w1.heap.size s (pos + (Utf8.decode s pos).2)).heap[w1.heap.size]? = some (.stringIter s (pos + (Utf8.decode s pos).2)) := Lib.iterAt_heap w _ s pos _ hk
      -- the round, told from here
      have Rhere : Rel W0 (w.iterAt w1.heap.size s (pos + (Utf8.decode s pos).2)) hp m n ⟨upd (upd e d (.tup [.one (.val (.bool true)), .one (.val (.int .i64 pos)), .one (.val (.int .i32 (Utf8.decode s pos).1))])) d1 (.sv (.one (.val (.bool true)))), hp⟩ _ _ m :=
        ⟨R''.hr, Ext.refl _ _ _, R''.size, R''.defers, R''.env⟩
      refine wp_mono (hr2.1 hlt _ _ _ _ _ _ Rhere) ?_
      rintro ex a' w' ⟨σ', m', hk2, r2⟩
      have r2' : Rel W0 we he me n σ' a' w' m' := ⟨r2.hr, R''.ext.trans r2.ext, r2.size, r2.defers, r2.env⟩
      have hro := r2.ext.ro w1.heap.size (Array.getElem?_eq_some_iff.1 hk').1 hav
      have hdec := utf8_width s pos
      cases ex with
      | normal =>
        obtain ⟨σ4, hw4, hte4, hI4⟩ := hk2
        exact ⟨s.size - (pos + (Utf8.decode s pos).2), by omega, σ4, m', _, rfl, hI4, hte4, r2'.wk hw4, by rw [hro.1]; exact hk', fun id bl hb => hro.2 id bl (hw4.less.1 id bl hb)⟩
      | _ => exact ⟨σ', m', hk2, r2'⟩
    · have hrun : Runs P ⟨some d, .next (.tmp t) true, ty1, pos1, af1, none⟩ a.eval w (fun v w' => v = .tuple #[.bool false] ∧ w' = w) :=
        Runs.value (by simp only [execOp, hta, Sem.run_bind, Lib.run_next_end_at w _ s pos ty1 hk hlt, Result.andThen_ok, Sem.run_pure]) ⟨rfl, rfl⟩
      refine hrun.wp ?_
      rintro v w' ⟨rfl, rfl⟩
      refine hK1 _ _ (wpList_step fun K2 hK2 => ?_)
      rw [if_pos (by simp [Region.wanted])]
      have R' := R.step (h' := hp) (d := some d) (r := .tup [.one (.val (.bool false))]) (v := .tuple #[.bool false]) R.hr (Ext.refl _ _ _) ⟨[.bool false], rfl, rfl, fun j sv u h1 h2 => by
          match j, h1, h2 with
          | 0, h1, h2 => obtain rfl := Option.some.inj h1; obtain rfl := Option.some.inj h2; exact .val _ rfl⟩ hd
      have hev : (a.put (some d) (.tuple #[.bool false])).eval (.tmp d) = .tuple #[.bool false] := by
        simp [Act.eval, Act.put, R.size, hd']
      have hrun2 : Runs P ⟨some d1, .extract (.tmp d) 0, ty2, pos2, af2, none⟩ (a.put (some d) (.tuple #[.bool false])).eval w' (fun v w2 => v = .bool false ∧ w2 = w') :=
        Runs.value (by simp only [execOp, hev]; rfl) ⟨rfl, rfl⟩
      refine hrun2.wp ?_
      rintro v w2 ⟨rfl, rfl⟩
      refine hK2 _ _ (wpList_nil ?_)
      have R'' := R'.step (h' := hp) (d := some d1) (r := .sv (.one (.val (.bool false)))) (v := .bool false) R'.hr (Ext.refl _ _ _) (.val _ rfl) hd1
      refine wp_mono (hr2.2 hlt _ _ _ _ _ _ R'') ?_
      rintro ex a' w' ⟨σ', m', hk2, r2⟩
      cases ex with
      | normal => exact hk2.elim
      | _ => exact ⟨σ', m', hk2, r2⟩
  · rintro ex a' w' ⟨σ', m', hk2, r2⟩
    cases ex with
    | exit j =>
      simp only [blockK] at hk2
      simp only [Exit.inBlock]
      split
      · rename_i e; rw [if_pos e] at hk2; exact ⟨σ', m', hk2, r2⟩
      · rename_i e; rw [if_neg e] at hk2; exact ⟨σ', m', hk2, r2⟩
    | _ => exact ⟨σ', m', hk2, r2⟩

/-- What a loop over a text's runes asks, told of the state behind the region that makes the iterator. -/
def RngK (P : Program) (W0 : World) (n : Nat) (K : Exit → St → Prop) (t d d1 b : Nat) (rest : Code) (x : Operand) (σ1 : St) : Prop :=
  ∃ s : ByteArray, σ1.eval x = .sv (.one (.val (.string s))) ∧ ∀ k, ∃ I : Nat → St → Prop,
      (∃ σ2, Wk W0 (σ1.put (some t) (itAt k)) σ2 ∧ σ2.env t = itAt k ∧ I 0 σ2) ∧ ∀ (pos : Nat) (e : Nat → Slot) (hp : Hp), e t = itAt k → I pos ⟨e, hp⟩ →
        (pos < s.size → PWP P W0 n rest (thenK (fun σ3 => ∃ σ4, Wk W0 σ3 σ4 ∧ σ4.env t = itAt k ∧ I (pos + (Utf8.decode s pos).2) σ4) (blockK b K))
          ⟨upd (upd e d (.tup [.one (.val (.bool true)), .one (.val (.int .i64 pos)), .one (.val (.int .i32 (Utf8.decode s pos).1))])) d1 (.sv (.one (.val (.bool true)))), hp⟩) ∧
        (¬ pos < s.size → PWP P W0 n rest (thenK (fun _ => False) (blockK b K)) ⟨upd (upd e d (.tup [.one (.val (.bool false))])) d1 (.sv (.one (.val (.bool false)))), hp⟩)

theorem pwp_rng {rid b r t d d1 : Nat} {L : List Oper} {x : Operand} {ty ty0 ty1 ty2 : TypeId} {pos0 pos1 pos2 : String} {af0 af1 af2 : Array Edge} {rest : Code} (q : Nat)
    (hL : L = L.take q ++ [(⟨some t, .range ty x, ty0, pos0, af0, none⟩ : Oper)]) (ht : decide (t < n) = true) (hd : decide (d < n) = true) (hd1 : decide (d1 < n) = true) (hne : decide (d1 ≠ d) = true) (hty : P.underlying ty = some .string)
    (H : ∀ M : St → Prop, (∀ σ1, RngK P W0 n K t d d1 b rest x σ1 → M σ1) → pops P W0 n L.toArray M (L.take q) σ) :
    PWP P W0 n (.seq (.region rid L.toArray false) (.block b (.loop (.seq (.region r #[⟨some d, .next (.tmp t) true, ty1, pos1, af1, none⟩, ⟨some d1, .extract (.tmp d) 0, ty2, pos2, af2, none⟩] false) rest)))) K σ := by
  have H' := H _ fun _ h => h
  generalize L.take q = l at hL H'
  subst hL
  exact pwp_range_str ht hd hd1 hne hty H'

end
end Go.Pw
