import Derived.Test.YtokmndkkgbamfaaDoorFacts
import Derived.Test.YtokmndkkgbamfaaDoorShelf
import Derived.Test.YtokmndkkgbamfaaDoorPwY
namespace Go.Pw
open Go Go.RowKit Go.Proofs
set_option maxRecDepth 100000
set_option linter.unusedSimpArgs false
set_option linter.unusedVariables false
theorem mixed : Tryd.prog.follows .mixedOrders = true := by kernel_rfl
def HasMax (W0 : World) : Prop := ∃ m, W0.cell? ⟨0, 0, none⟩ = some (.int .i64 m)
theorem nm22 : (Tryd.f22.name == "runtime.NumGoroutine") = false := by kernel_rfl
theorem split_fun (W0 : World) (hm : HasMax W0) (s : List UInt8) (c : UInt8) (hs : s.length < 4294967281) :
    PFun Tryd.prog W0 22 [.one (pstr s), .one (.val (.string ⟨#[c]⟩))] (.sv (.one (.ro true 1 (pstrs (spl c s))))) := by
  obtain ⟨m, hm⟩ := hm
  refine pfun_newstrs (P := Tryd.prog) (vals := [.string ⟨s.toArray⟩, .string ⟨#[c]⟩]) (n := Lib.countB ⟨s.toArray⟩ ⟨#[c]⟩ + 1) (ty := 9) ⟨_, Tryd.func22, rfl, nm22⟩ ?_ fun w hb => ?_
  · rw [spl_length, Lib.countB]
    simp [Lib.count_one]
  · refine (Tryd.strings_Split ⟨s.toArray⟩ ⟨#[c]⟩ m w (by rw [str_size]; exact hs) (cell_below hb hm) (Nat.le_refl _)).mono ?_
    rintro e w' ⟨rfl, rfl⟩
    refine ⟨rfl, ?_⟩
    have hd := Lib.splitB_data ⟨#[c]⟩ 0 (Lib.countB ⟨s.toArray⟩ ⟨#[c]⟩) ⟨s.toArray⟩
    have e : (Lib.splitB ⟨#[c]⟩ 0 (Lib.countB ⟨s.toArray⟩ ⟨#[c]⟩) ⟨s.toArray⟩) = (spl c s).map fun x => (⟨x.toArray⟩ : ByteArray) := by
      rw [← split_spl, Lib.split]
      have e2 : Lib.splitK [c] 0 (Lib.count s [c]) s = Lib.splitK (⟨#[c]⟩ : ByteArray).data.toList 0 (Lib.countB ⟨s.toArray⟩ ⟨#[c]⟩) (⟨s.toArray⟩ : ByteArray).data.toList := by simp [Lib.countB]
      rw [e2, ← hd, List.map_map]
      symm
      rw [List.map_congr_left (g := id) (fun x _ => by simp)]
      simp
    rw [e, List.map_map]
    rfl
def checkR (isNameR : List UInt8 → Bool) (s : List UInt8) : Int := if s = [] then 0 else if 1024 < s.length then 1 else if (spl 47 s).all isNameR then 0 else 1
theorem keeps_pass {h a b : Hp} {id : Nat} (hb : hpOk h) (hid : h.lim ≤ id) (k : Keeps h a) (p : Keeps ⟨fun j => if j = id then none else a.blk j, a.lim⟩ b) : Keeps h b :=
  ⟨fun j bl hj => p.1 j bl (by
    have := hb j bl hj
    simp only
    rw [if_neg (by omega)]
    exact k.1 j bl hj), Nat.le_trans k.2 p.2⟩
theorem has66 : Has Tryd.prog 66 := ⟨_, Tryd.func66, rfl, by kernel_rfl⟩
theorem indexByte_fun (W0 : World) (s : List UInt8) (c : UInt8) : PFun Tryd.prog W0 66 [.one (pstr s), .one (.val (.int .u8 c.toNat))] (.sv (.one (pint (Lib.indexByte s c)))) :=
  pfun_same (P := Tryd.prog) (vals := [.string ⟨s.toArray⟩, .int .u8 c.toNat]) has66 rfl fun w _ => by
    have := Tryd.strings_IndexByte ⟨s.toArray⟩ c.toNat w
    simpa using this
theorem indexByte_not {s : List UInt8} {c : UInt8} (h : c ∉ s) : Lib.indexByte s c = -1 := by
  induction s with
  | nil => rfl
  | cons b l ih =>
    have h1 : ¬ (b == c) = true := fun e => h (by simp [beq_iff_eq.1 e])
    have h2 := ih (fun e => h (by simp [e]))
    unfold Lib.indexByte
    rw [if_neg h1, h2]
    rfl
theorem indexByte_in {s : List UInt8} {c : UInt8} (h : c ∈ s) : 0 ≤ Lib.indexByte s c := by
  have h1 := Lib.indexByte_ge s c
  rcases Int.lt_or_le (Lib.indexByte s c) 0 with h2 | h2
  · have h3 : Lib.indexByte s c = -1 := by omega
    obtain ⟨k, hk⟩ := List.getElem?_of_mem h
    exact absurd hk (Lib.indexByte_none h3 k)
  · exact h2
theorem has52 : Has Tryd.prog 52 := ⟨_, Tryd.func52, rfl, by kernel_rfl⟩
theorem indexRune_low (W0 : World) (s : List UInt8) (r : Nat) (h : r < 128) : PFun Tryd.prog W0 52 [.one (pstr s), .one (.val (.int .i32 r))] (.sv (.one (pint (Lib.indexByte s r.toUInt8)))) :=
  pfun_same (P := Tryd.prog) (vals := [.string ⟨s.toArray⟩, .int .i32 r]) has52 rfl fun w _ => by
    have := Tryd.strings_IndexRune_ascii ⟨s.toArray⟩ r w (by omega) (by omega)
    simpa using this
theorem has67 : Has Tryd.prog 67 := ⟨_, Tryd.func67, rfl, by kernel_rfl⟩
theorem validRune_fun (W0 : World) (r : Int) : PFun Tryd.prog W0 67 [.one (.val (.int .i32 r))] (.sv (.one (pbool (Lib.validRune r)))) :=
  pfun_same (P := Tryd.prog) (vals := [.int .i32 r]) has67 rfl fun w _ => Tryd.utf8_ValidRune r w
theorem encode_high (r : Int) (h : 128 ≤ r) : ∃ bs : List UInt8, Utf8.encode r = ⟨bs.toArray⟩ ∧ 2 ≤ bs.length ∧ bs.length ≤ 4 ∧ ∀ b ∈ bs, 128 ≤ b.toNat := by
  have key : ∀ n : Nat, 128 ≤ n → n < 256 → 128 ≤ (UInt8.ofNat n).toNat := fun n h1 h2 => by
    rw [UInt8.toNat_ofNat_of_lt' (by simpa using h2)]; exact h1
  have hc : 128 ≤ (if Utf8.valid r then r.toNat else Utf8.runeError) ∧ (if Utf8.valid r then r.toNat else Utf8.runeError) ≤ 1114111 := by
    split
    · rename_i hv
      simp only [Utf8.valid, Bool.or_eq_true, Bool.and_eq_true, decide_eq_true_eq] at hv
      omega
    · decide
  unfold Utf8.encode
  generalize (if Utf8.valid r then r.toNat else Utf8.runeError) = c at hc
  dsimp only
  rw [if_neg (by omega)]
  split
  · refine ⟨_, rfl, by simp, by simp, fun b hb => ?_⟩
    simp only [List.mem_cons, List.not_mem_nil, or_false] at hb
    rcases hb with rfl | rfl <;> exact key _ (by omega) (by omega)
  · split
    · refine ⟨_, rfl, by simp, by simp, fun b hb => ?_⟩
      simp only [List.mem_cons, List.not_mem_nil, or_false] at hb
      rcases hb with rfl | rfl | rfl <;> exact key _ (by omega) (by omega)
    · refine ⟨_, rfl, by simp, by simp, fun b hb => ?_⟩
      simp only [List.mem_cons, List.not_mem_nil, or_false] at hb
      rcases hb with rfl | rfl | rfl | rfl <;> exact key _ (by omega) (by omega)
theorem wrap_pred {n : Nat} (h : 1 ≤ n) (h2 : n ≤ 9223372036854775807) : IntKind.i64.wrap ((n : Int) - 1) = ((n - 1 : Nat) : Int) := by
  rw [wrap_i64 (by omega) (by omega)]; omega
theorem decode_low {s : List UInt8} {pos : Nat} {b : UInt8} (h : s[pos]? = some b) (hb : b.toNat < 128) : Utf8.decode ⟨s.toArray⟩ pos = (b.toNat, 1) := by
  have hlt := (List.getElem?_eq_some_iff.1 h).1
  have hv := (List.getElem?_eq_some_iff.1 h).2
  have hlt' : pos < (⟨s.toArray⟩ : ByteArray).size := by rw [str_size]; exact hlt
  have e : ((⟨s.toArray⟩ : ByteArray)[pos]'hlt') = b := by rw [← hv]; rfl
  have := decode_ascii ⟨s.toArray⟩ pos hlt' (by rw [e]; exact hb)
  rw [e] at this
  exact this
theorem get_list (s : List UInt8) (i : Nat) : (⟨s.toArray⟩ : ByteArray).get! i = s.getD i default := by
  show s.toArray[i]! = _
  simp [List.getD, getElem!_def]
  cases s[i]? <;> rfl
/-- A rune and its bytes, in a list. -/
theorem decode_any {s : List UInt8} {pos : Nat} {b : UInt8} (h : s[pos]? = some b) :
    (b.toNat < 128 ∧ Utf8.decode ⟨s.toArray⟩ pos = (b.toNat, 1)) ∨ (128 ≤ (Utf8.decode ⟨s.toArray⟩ pos).1 ∧ pos + (Utf8.decode ⟨s.toArray⟩ pos).2 ≤ s.length ∧ ∀ k, pos ≤ k → k < pos + (Utf8.decode ⟨s.toArray⟩ pos).2 → ∀ c, s[k]? = some c → 128 ≤ c.toNat) := by
  have hlt := (List.getElem?_eq_some_iff.1 h).1
  have hlt' : pos < (⟨s.toArray⟩ : ByteArray).size := by rw [str_size]; exact hlt
  have hg : (⟨s.toArray⟩ : ByteArray).get! pos = b := by rw [get_list]; simp [List.getD, h]
  rcases Nat.lt_or_ge b.toNat 128 with hb | hb
  · exact .inl ⟨hb, decode_low h hb⟩
  · have hs := decode_span ⟨s.toArray⟩ pos hlt' (by rw [hg]; exact hb)
    have e : ((⟨s.toArray⟩ : ByteArray)[pos]'hlt') = b := by rw [← (List.getElem?_eq_some_iff.1 h).2]; rfl
    have h1 := decode_high ⟨s.toArray⟩ pos hlt' (by rw [e]; exact hb)
    refine .inr ⟨h1.1, ?_, fun k k1 k2 c hc => ?_⟩
    · have := (hs ((Utf8.decode ⟨s.toArray⟩ pos).2 - 1) (by omega)).1
      rw [str_size] at this
      omega
    · have := (hs (k - pos) (by omega)).2
      rw [show pos + (k - pos) = k by omega, get_list] at this
      simpa [List.getD, hc] using this
def setPV (cs : List UInt8) : List PV := (List.range 256).map fun j => pbool (cs.contains (UInt8.ofNat j))
theorem setPV_len (cs : List UInt8) : (setPV cs).length = 256 := by simp [setPV]
theorem setPV_at (cs : List UInt8) (c : UInt8) : ∃ r, (setPV cs).drop c.toNat = pbool (cs.contains c) :: r := by
  have hc : c.toNat < 256 := c.toNat_lt
  have h : c.toNat < (setPV cs).length := by rw [setPV_len]; exact hc
  refine ⟨_, List.drop_eq_getElem_cons h |>.trans (congrArg (· :: _) ?_)⟩
  simp [setPV]
theorem has54 : Has Tryd.prog 54 := ⟨_, Tryd.func54, rfl, by kernel_rfl⟩
theorem makeSet_fun (W0 : World) (cs : List UInt8) (hcs : ∀ b ∈ cs, b.toNat < 128) (hl : cs.length < 4294967281) : PFun Tryd.prog W0 54 [.one (pstr cs)] (.tup [.agg (setPV cs), .one (pbool true)]) := by
  refine fun h => ⟨has54, fun w m vs R hl' hv => ?_⟩
  obtain rfl := svr_vals (vals := [.string ⟨cs.toArray⟩]) hl' hv
  refine (Tryd.strings_makeASCIISet (fun w => by kernel_rfl) ⟨cs.toArray⟩ w (by rw [str_size]; exact hl) (fun j b hb => hcs b (List.mem_of_getElem? (by simpa using hb)))).mono ?_
  rintro e w' ⟨rfl, rfl⟩
  have hcells : (Lib.setCells (⟨cs.toArray⟩ : ByteArray).data.toList).toList = (List.range 256).map fun j => Value.bool (cs.contains (UInt8.ofNat j)) := by
    rw [Lib.setCells_eq]
    simp
  refine ⟨_, _, h, m, rfl, ⟨rfl, .refl _⟩, ⟨[.agg (Lib.setCells (⟨cs.toArray⟩ : ByteArray).data.toList), .bool true], rfl, rfl, fun j s u h1 h2 => ?_⟩, R.grow (below_alloc w _), Ext.grow (below_alloc w _)⟩
  match j, h1, h2 with
  | 0, h1, h2 =>
    obtain rfl := Option.some.inj h1
    obtain rfl := Option.some.inj h2
    refine ⟨(Lib.setCells (⟨cs.toArray⟩ : ByteArray).data.toList).toList, by simp, by rw [hcells]; simp [setPV], fun i p v hp hv => ?_⟩
    rw [hcells] at hv
    simp only [setPV, List.getElem?_map] at hp hv
    obtain ⟨q, hq, rfl⟩ := Option.map_eq_some_iff.1 hp
    rw [hq] at hv
    obtain rfl := Option.some.inj hv
    exact .val _ rfl
  | 1, h1, h2 => obtain rfl := Option.some.inj h1; obtain rfl := Option.some.inj h2; exact .val _ rfl
def setBlk (cs : List UInt8) : Blk := ⟨85, 256, [setPV cs], 0, true⟩
def setBlk0 : Blk := ⟨85, 256, [List.replicate 256 (pbool false)], 0, true⟩
theorem ze85 : zeroOf Tryd.prog 85 = some (.agg (Array.replicate 256 (.bool false))) := by kernel_rfl
theorem alloc85 {h : Hp} {N : Slot → Hp → Prop} (H : ∀ id, h.lim ≤ id → N (.sv (.one (.ptr id 0 0 0))) (h.new id setBlk0)) : popAlloc Tryd.prog 85 h N := by
  unfold popAlloc
  rw [ze85]
  have e : constSlot (.agg (Array.replicate 256 (Value.bool false))) = .sv (.agg (List.replicate 256 (pbool false))) := by
    have hall : ((Array.replicate 256 (Value.bool false)).all fun x => x.oneCell') = true := by
      rw [Array.all_eq_true_iff_forall_mem]
      intro x hx
      rw [(Array.mem_replicate.1 hx).2]
      rfl
    unfold constSlot
    simp only []
    rw [if_pos hall]
    simp
  simp only []
  rw [e]
  unfold popBox
  simp only [slotCells, List.length_replicate]
  exact ⟨by omega, fun id hid => H id hid⟩
theorem sz85' : szOf Tryd.prog 85 = some 256 := by kernel_rfl
theorem store85 {h : Hp} {id : Nat} {cs : List UInt8} {N : Slot → Hp → Prop} (hb : h.blk id = some setBlk0) (H : N (.tup []) (h.set id (setBlk cs))) : popStore Tryd.prog 85 (.sv (.one (.ptr id 0 0 0))) (.sv (.agg (setPV cs))) h N := by
  unfold popStore
  simp only [hb, setBlk0, slotCells, sz85', setPV_len, List.getElem?_cons_zero, List.length_replicate]
  refine ⟨trivial, trivial, by omega, ?_⟩
  have e : splice (List.replicate 256 (pbool false)) 0 (setPV cs) = setPV cs := by
    unfold splice
    rw [setPV_len]
    simp
  rw [e]
  exact H
theorem hit_any {s cs : List UInt8} {pos rn wd : Nat} {x : UInt8} (hd : (x.toNat < 128 ∧ (rn, wd) = (x.toNat, 1)) ∨ (128 ≤ rn ∧ pos + wd ≤ s.length ∧ ∀ k, pos ≤ k → k < pos + wd → ∀ c, s[k]? = some c → 128 ≤ c.toNat)) (hz : rn < 128 ∧ rn.toUInt8 ∈ cs) : x ∈ cs := by
  rcases hd with ⟨_, e⟩ | ⟨h, _⟩
  · obtain ⟨rfl, rfl⟩ := Prod.mk.inj e
    have : x.toNat.toUInt8 = x := by simp
    rw [← this]; exact hz.2
  · omega
theorem step_any {s cs : List UInt8} {pos rn wd : Nat} {x : UInt8} (hx : s[pos]? = some x) (hcs : ∀ b ∈ cs, b.toNat < 128) (hd : (x.toNat < 128 ∧ (rn, wd) = (x.toNat, 1)) ∨ (128 ≤ rn ∧ pos + wd ≤ s.length ∧ ∀ k, pos ≤ k → k < pos + wd → ∀ c, s[k]? = some c → 128 ≤ c.toNat))
    (hz : ¬ (rn < 128 ∧ rn.toUInt8 ∈ cs)) (hp : ∀ b ∈ s.take pos, b ∉ cs) : pos + wd ≤ s.length ∧ ∀ b ∈ s.take (pos + wd), b ∉ cs := by
  have hlt := (List.getElem?_eq_some_iff.1 hx).1
  rcases hd with ⟨hb, e⟩ | ⟨h, h1, h2⟩
  · obtain ⟨rfl, rfl⟩ := Prod.mk.inj e
    refine ⟨by omega, fun b hm => ?_⟩
    rw [List.take_add_one, hx] at hm
    rcases List.mem_append.1 hm with h | h
    · exact hp b h
    · obtain rfl : b = x := by simpa using h
      intro hc
      exact hz ⟨hb, by simpa using hc⟩
  · refine ⟨h1, fun b hm hc => ?_⟩
    obtain ⟨k, hk⟩ := List.getElem?_of_mem hm
    rw [List.getElem?_take] at hk
    split at hk
    · rename_i hk2
      by_cases hk3 : k < pos
      · exact hp b (List.mem_of_getElem? (by rw [List.getElem?_take, if_pos hk3]; exact hk)) hc
      · have := h2 k (by omega) hk2 b hk
        have := hcs b hc
        omega
    · cases hk
theorem take_any {s cs : List UInt8} {i : Nat} {x : UInt8} (hx : s[i]? = some x) (hn : x ∉ cs) (hp : ∀ b ∈ s.take i, b ∉ cs) : ∀ b ∈ s.take (i + 1), b ∉ cs := by
  intro b hm
  rw [List.take_add_one, hx] at hm
  rcases List.mem_append.1 hm with h | h
  · exact hp b h
  · obtain rfl : b = x := by simpa using h
    exact hn
theorem none_any {s cs : List UInt8} {i : Nat} (hi : s.length ≤ i) (hp : ∀ b ∈ s.take i, b ∉ cs) : ¬ ∃ b ∈ s, b ∈ cs := by
  rintro ⟨b, h1, h2⟩
  rw [List.take_of_length_le hi] at hp
  exact hp b h1 h2
theorem has53 : Has Tryd.prog 53 := ⟨_, Tryd.func53, rfl, by kernel_rfl⟩
theorem useSet_fun (W0 : World) (n : Int) : PFun Tryd.prog W0 53 [.one (pint n)] (.sv (.one (pbool (decide (8 < n))))) :=
  pfun_same (P := Tryd.prog) (vals := [.int .i64 n]) has53 rfl fun w _ => Tryd.strings_shouldUseASCIISet n w
def isNameB (s : List UInt8) : Bool := !(s == []) && decide (s.length ≤ 255) && !(s == [46]) && !(s == [46, 46]) && !(s.any [0, 47].contains)
def isPathB (s : List UInt8) : Bool := s == [] || (decide (s.length ≤ 1024) && (spl 47 s).all isNameB)
theorem checkR_eq (s : List UInt8) : checkR isNameB s = if isPathB s then 0 else 1 := by
  unfold checkR isPathB
  by_cases h0 : s = []
  · simp [h0]
  · by_cases h1 : 1024 < s.length
    · have : ¬ s.length ≤ 1024 := by omega
      simp [h0, h1, this]
    · have : s.length ≤ 1024 := by omega
      simp [h0, h1, this]
theorem isPathB_len {s : List UInt8} (h : isPathB s = true) : s.length ≤ 1024 := by
  unfold isPathB at h
  simp only [Bool.or_eq_true, Bool.and_eq_true, decide_eq_true_eq, beq_iff_eq] at h
  rcases h with rfl | h
  · simp
  · exact h.1
def relR (d p : List UInt8) : List UInt8 × Int :=
  if !([d, p].all isPathB) then ([], 1) else if d = [] then (p, 0) else if d = p then ([], 0) else if Lib.hasPrefix p (d ++ [47]) then (p.drop (d.length + 1), 0) else ([], 3)
theorem relR_1 {d p : List UInt8} (h : [d, p].all isPathB = false) : relR d p = ([], 1) := by
  unfold relR; rw [h]; rfl
theorem relR_2 {d p : List UInt8} (h : [d, p].all isPathB = true) (hs : d = []) : relR d p = (p, 0) := by
  unfold relR; rw [h, if_pos hs]; rfl
theorem relR_3 {d p : List UInt8} (h : [d, p].all isPathB = true) (he : d = p) : relR d p = ([], 0) := by
  unfold relR; rw [h]
  by_cases hs : d = []
  · rw [if_pos hs, ← he, hs]; rfl
  · rw [if_neg hs, if_pos he]; rfl
theorem relR_4 {d p : List UInt8} (h : [d, p].all isPathB = true) (hs : ¬ d = []) (he : ¬ d = p) (hp : Lib.hasPrefix p (d ++ [47]) = true) : relR d p = (p.drop (d.length + 1), 0) := by
  unfold relR; rw [h, if_neg hs, if_neg he, if_pos hp]; rfl
theorem relR_5 {d p : List UInt8} (h : [d, p].all isPathB = true) (hs : ¬ d = []) (he : ¬ d = p) (hp : Lib.hasPrefix p (d ++ [47]) = false) : relR d p = ([], 3) := by
  unfold relR; rw [h, if_neg hs, if_neg he, hp]; rfl
def lowC (c : UInt8) : UInt8 := if 65 ≤ c.toNat ∧ c.toNat ≤ 90 then c + 32 else c
theorem lowC_toNat (c : UInt8) (h : 65 ≤ c.toNat ∧ c.toNat ≤ 90) : ((lowC c).toNat : Int) = c.toNat + 32 := by
  unfold lowC
  rw [if_pos h, UInt8.toNat_add]
  have : (32 : UInt8).toNat = 32 := rfl
  omega
theorem wrap_u8 {x : Int} (h1 : 0 ≤ x) (h2 : x < 256) : IntKind.u8.wrap x = x := by
  have : IntKind.u8.wrap x = x % 256 := by simp [IntKind.wrap, IntKind.bits, IntKind.signed]
  omega
end Go.Pw
