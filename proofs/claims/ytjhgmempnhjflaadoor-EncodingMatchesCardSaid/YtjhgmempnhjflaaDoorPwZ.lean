/-
  PW, part Z: bytes of one's own.
-/
import Derived.Test.YtjhgmempnhjflaaDoorPwS
namespace Go.Pw
open Go Go.RowKit

/-- A block of bytes; its element's type. -/
def bytesBlk (t : TypeId) (l : List UInt8) : Blk := ⟨t, 1, l.map byteCell, 0, false⟩
abbrev pbyte (c : UInt8) : PV := .val (.int .u8 c.toNat)

section
variable {P : Program} {W0 : World} {h : Hp} {N : Slot → Hp → Prop} {id i : Nat} {t t8 ts : TypeId} {l : List UInt8} {c : UInt8}

theorem toBytes (hs : P.underlying ts = some .string) (ht : P.underlying t = some (.slice t8)) (h8 : P.underlying t8 = some (.int .u8)) (hl : l.length ≤ 9223372036854775807)
    (H : ∀ id, h.lim ≤ id → N (.sv (.one (.own id 0 0 l.length))) (h.new id (bytesBlk t8 l))) : popConvert P ts t (.sv (.one (pstr l))) h N := by
  unfold popConvert
  rw [hs, ht]
  simp only [h8, str_size]
  exact ⟨trivial, hl, fun id hid => H id hid⟩

theorem fromBytes (hs : P.underlying ts = some .string) (ht : P.underlying t = some (.slice t8)) (h8 : P.underlying t8 = some (.int .u8)) (hb : h.blk id = some (bytesBlk t8 l))
    (H : N (.sv (.one (pstr l))) h) : popConvert P t ts (.sv (.one (.own id 0 0 l.length))) h N := by
  unfold popConvert
  rw [hs, ht]
  refine ⟨h8, l, ⟨1, ?_⟩, H⟩
  unfold srcOf
  simp only [hb, bytesBlk]
  simp [List.take_of_length_le]

theorem ixByte {ix : Int} (ht : P.underlying t = some (.slice t8)) (hz : szOf P t8 = some 1) (hb : h.blk id = some (bytesBlk t8 l)) (hix : ix = i) (hi : i < l.length) {K : Slot → Prop} (H : K (.sv (.one (.ptr id 0 i 0)))) :
    popIndexAddr P t (.sv (.one (.own id 0 0 l.length))) (.sv (.one (.val (.int .i64 ix)))) h K := by
  subst hix
  unfold popIndexAddr
  simp only [ht, hb, bytesBlk, hz]
  refine ⟨trivial, Int.natCast_nonneg _, by omega, trivial, ?_⟩
  rw [Int.toNat_natCast, Nat.zero_add]
  exact H

theorem loadByte (h8 : P.underlying t8 = some (.int .u8)) (hb : h.blk id = some (bytesBlk t8 l)) (hx : l[i]? = some c) (H : N (.sv (.one (pbyte c))) h) : popLoad P W0 t8 (.sv (.one (.ptr id 0 i 0))) h N := by
  unfold popLoad
  simp only [hb, bytesBlk, List.getElem?_map, hx, Option.map_some, byteCell, List.drop_zero]
  refine ⟨trivial, ?_⟩
  unfold loadK
  simp only [h8, isAggD]
  exact H

theorem storeByte (hz : szOf P t8 = some 1) (hb : h.blk id = some (bytesBlk t8 l)) (hi : i < l.length) (H : N (.tup []) (h.set id (bytesBlk t8 (l.set i c)))) :
    popStore P t8 (.sv (.one (.ptr id 0 i 0))) (.sv (.one (pbyte c))) h N := by
  unfold popStore
  have hx : l[i]? = some l[i] := List.getElem?_eq_getElem hi
  simp only [hb, bytesBlk, List.getElem?_map, hx, Option.map_some, slotCells, hz, byteCell, List.length_cons, List.length_nil]
  refine ⟨trivial, trivial, by omega, ?_⟩
  have e : splice [PV.val (.int .u8 (l[i].toNat : Int))] 0 [pbyte c] = byteCell c := by simp [splice, byteCell]
  have e2 : (l.map byteCell).set i (byteCell c) = (l.set i c).map byteCell := by rw [List.map_set]
  rw [e, e2]
  exact H

end

/-- What is nil is an empty row, too. -/
theorem SlotWk.nil1 {W0 : World} {h : Hp} (sz : Nat) : SlotWk W0 h (.sv (.one (.val (.slice none 0 0)))) h (.sv (.one (.ro true sz []))) :=
  ⟨Less.refl _, fun w m _ v x => by
    cases x with
    | val _ _ => exact .ro0 _ _ _ _ (fun _ => rfl)⟩
theorem SlotWk.nil2 {W0 : World} {h : Hp} (sz : Nat) (s : SV) : SlotWk W0 h (.tup [.one (.val (.slice none 0 0)), s]) h (.tup [.one (.ro true sz []), s]) :=
  ⟨Less.refl _, fun w m _ v x => by
    obtain ⟨vs, e, hl, hv⟩ := x
    refine ⟨vs, e, hl, fun j s' u h1 h2 => ?_⟩
    match j, h1, h2 with
    | 0, h1, h2 =>
      obtain rfl := Option.some.inj h1
      have := hv 0 _ u rfl h2
      cases this with
      | val _ _ => exact .ro0 _ _ _ _ (fun _ => rfl)
    | 1, h1, h2 => exact hv 1 s' u h1 h2⟩

end Go.Pw
