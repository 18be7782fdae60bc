/-
  DERIVED. GIVEN WITH THE SEED: THE CARDS: each row of YtomkpdnnimcapaaDoorRows.lean that lists a variable, with what it lists TIED to the program's text (the seventh form; the later family's looks); each row that meets fmt, with fmt's text TOLD by the authors' own Lean function (tested against real Go, not proved from fmt's source: count such statements apart). THE CARD IS WHAT COUNTS. Prove the row's statement (the work); the ties are given (YtomkpdnnimcapaaDoorTie.lean); close each card by the builder's one call (the guide's Derived/Test/ToyasCard.lean, 'card_holds'). Laid BY PROGRAM, IN A SANDBOX (cutbox-door.mjs). By AI agents, Wed Nov 11 2026. No macro, syntax, notation, axiom, sorry.
-/
import Derived.Test.YtomkpdnnimcapaaDoorRows
import GoSem.ClaimSeven
namespace Go.Proofs.YtomkpdnnimcapaaDoor
namespace Rows

/-- THE TIED CARD OF 'wherrytop.TopShared'. -/
def topSharedCard : Claim7 := { stood := { row := topSharedRow, standIns := [], harness := (true, "428f3d540cf1b12d9a123c2c017a5576145d18544763ff2b662baa95e7d8f471"), looks := false }, kinds := [], alts := [], laidByText := true, laidKinds := [.data, .pinned], laidTests := true, laidLooks := .later }
def TopSharedCardSaid : Prop := Claim7.holds Tryd.pinned (.plain (OpenSpec.ofChange topSharedSpec)) topSharedCard

/-- THE SECOND FORM's CARD OF 'wherrytop.TopShared'. -/
def topSharedUptoCard : Claim7 := { stood := { row := topSharedUptoRow, standIns := [], harness := (true, "428f3d540cf1b12d9a123c2c017a5576145d18544763ff2b662baa95e7d8f471"), looks := false }, kinds := [], alts := [], laidByText := true, laidKinds := [.data, .pinned], laidTests := true, laidLooks := .later }
def TopSharedUptoCardSaid : Prop := Claim7.holds Tryd.pinned (.plain (OpenSpec.upto topSharedSpec)) topSharedUptoCard
end Rows
end Go.Proofs.YtomkpdnnimcapaaDoor
