/-
  DERIVED. GIVEN WITH THE SEED: THE CARDS: each row of YtokmndkkgbamfaaDoorRows.lean that lists a variable, with what it lists TIED to the program's text (the seventh form; the later family's looks); each row that meets fmt, with fmt's text TOLD by the authors' own Lean function (tested against real Go, not proved from fmt's source: count such statements apart). THE CARD IS WHAT COUNTS. Prove the row's statement (the work); the ties are given (YtokmndkkgbamfaaDoorTie.lean); close each card by the builder's one call (the guide's Derived/Test/ToyasCard.lean, 'card_holds'). Laid BY PROGRAM, IN A SANDBOX (cutbox-door.mjs). By AI agents, Wed Nov 11 2026. No macro, syntax, notation, axiom, sorry.
-/
import Derived.Test.YtokmndkkgbamfaaDoorRows
import GoSem.ClaimSeven
namespace Go.Proofs.YtokmndkkgbamfaaDoor
namespace Rows

/-- THE TIED CARD OF 'wherrylaw1.DealsPrint'. -/
def dealsPrintCard : Claim7 := { stood := { row := dealsPrintRow, standIns := [], harness := (true, "74761ced65748077e007a5eff02cd727637ea9991ac19a5f7ce4cf7749fbaf50"), looks := false }, kinds := [], alts := [], laidByText := true, laidKinds := [.data, .data, .data, .data, .pinned], laidTests := true, laidLooks := .later }
def DealsPrintCardSaid : Prop := Claim7.holds Tryd.pinned (.plain (OpenSpec.ofChange dealsPrintSpec)) dealsPrintCard

/-- THE SECOND FORM's CARD OF 'wherrylaw1.DealsPrint'. -/
def dealsPrintUptoCard : Claim7 := { stood := { row := dealsPrintUptoRow, standIns := [], harness := (true, "74761ced65748077e007a5eff02cd727637ea9991ac19a5f7ce4cf7749fbaf50"), looks := false }, kinds := [], alts := [], laidByText := true, laidKinds := [.data, .data, .data, .data, .pinned], laidTests := true, laidLooks := .later }
def DealsPrintUptoCardSaid : Prop := Claim7.holds Tryd.pinned (.plain (OpenSpec.upto dealsPrintSpec)) dealsPrintUptoCard
end Rows
end Go.Proofs.YtokmndkkgbamfaaDoor
