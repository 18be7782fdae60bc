/-
  DERIVED. GIVEN WITH THE SEED: THE CARDS: each row of YtodafniobppglaaDoorRows.lean that lists a variable, with what it lists TIED to the program's text (the seventh form; the later family's looks); each row that meets fmt, with fmt's text TOLD by the authors' own Lean function (tested against real Go, not proved from fmt's source: count such statements apart). THE CARD IS WHAT COUNTS. Prove the row's statement (the work); the ties are given (YtodafniobppglaaDoorTie.lean); close each card by the builder's one call (the guide's Derived/Test/ToyasCard.lean, 'card_holds'). Laid BY PROGRAM, IN A SANDBOX (cutbox-door.mjs). By AI agents, Wed Nov 11 2026. No macro, syntax, notation, axiom, sorry.
-/
import Derived.Test.YtodafniobppglaaDoorRows
import GoSem.ClaimSeven
namespace Go.Proofs.YtodafniobppglaaDoor
namespace Rows

/-- THE TIED CARD OF 'wherrylaw1.GlobMatch'. -/
def globMatchCard : Claim7 := { stood := { row := globMatchRow, standIns := [], harness := (true, "fd4d2c5130d6a1bd654965c5e3ec60fdd9aff6230e882586474af5224985125a"), looks := true }, kinds := [], alts := [], laidByText := true, laidKinds := [.data, .pinned], laidTests := true, laidLooks := .later }
def GlobMatchCardSaid : Prop := Claim7.holds Tryd.pinned (.plain (OpenSpec.ofChange globMatchSpec)) globMatchCard

/-- THE TIED CARD OF 'wherrylaw1.GlobNeedsDirs'. -/
def globNeedsDirsCard : Claim7 := { stood := { row := globNeedsDirsRow, standIns := [], harness := (true, "fd4d2c5130d6a1bd654965c5e3ec60fdd9aff6230e882586474af5224985125a"), looks := true }, kinds := [], alts := [], laidByText := true, laidKinds := [.data, .pinned], laidTests := true, laidLooks := .later }
def GlobNeedsDirsCardSaid : Prop := Claim7.holds Tryd.pinned (.plain (OpenSpec.ofChange globNeedsDirsSpec)) globNeedsDirsCard

/-- THE TIED CARD OF 'wherrylaw1.FilterLosesNothing'. -/
def filterLosesNothingCard : Claim7 := { stood := { row := filterLosesNothingRow, standIns := [], harness := (true, "fd4d2c5130d6a1bd654965c5e3ec60fdd9aff6230e882586474af5224985125a"), looks := true }, kinds := [], alts := [], laidByText := true, laidKinds := [.data, .pinned], laidTests := true, laidLooks := .later }
def FilterLosesNothingCardSaid : Prop := Claim7.holds Tryd.pinned (.plain (OpenSpec.ofChange filterLosesNothingSpec)) filterLosesNothingCard

/-- THE TIED CARD OF 'wherrylaw1.AgesMatch'. -/
def agesMatchCard : Claim7 := { stood := { row := agesMatchRow, standIns := [], harness := (true, "fd4d2c5130d6a1bd654965c5e3ec60fdd9aff6230e882586474af5224985125a"), looks := true }, kinds := [], alts := [], laidByText := true, laidKinds := [.data, .data, .data, .data, .sentinel, .sentinel, .pinned], laidTests := true, laidLooks := .later }
def AgesMatchCardSaid : Prop := Claim7.holds Tryd.pinned (.plain (OpenSpec.ofChange agesMatchSpec)) agesMatchCard

/-- THE TIED CARD OF 'wherrylaw1.SizesMatch'. -/
def sizesMatchCard : Claim7 := { stood := { row := sizesMatchRow, standIns := [], harness := (true, "fd4d2c5130d6a1bd654965c5e3ec60fdd9aff6230e882586474af5224985125a"), looks := true }, kinds := [], alts := [], laidByText := true, laidKinds := [.data, .data, .data, .data, .sentinel, .sentinel, .pinned], laidTests := true, laidLooks := .later }
def SizesMatchCardSaid : Prop := Claim7.holds Tryd.pinned (.plain (OpenSpec.ofChange sizesMatchSpec)) sizesMatchCard

/-- THE TIED CARD OF 'wherrylaw1.FilterChecks'. -/
def filterChecksCard : Claim7 := { stood := { row := filterChecksRow, standIns := [], harness := (true, "fd4d2c5130d6a1bd654965c5e3ec60fdd9aff6230e882586474af5224985125a"), looks := true }, kinds := [], alts := [], laidByText := true, laidKinds := [.data, .pinned], laidTests := true, laidLooks := .later }
def FilterChecksCardSaid : Prop := Claim7.holds Tryd.pinned (.plain (OpenSpec.ofChange filterChecksSpec)) filterChecksCard

/-- THE SECOND FORM's CARD OF 'wherrylaw1.GlobMatch'. -/
def globMatchUptoCard : Claim7 := { stood := { row := globMatchUptoRow, standIns := [], harness := (true, "fd4d2c5130d6a1bd654965c5e3ec60fdd9aff6230e882586474af5224985125a"), looks := true }, kinds := [], alts := [], laidByText := true, laidKinds := [.data, .pinned], laidTests := true, laidLooks := .later }
def GlobMatchUptoCardSaid : Prop := Claim7.holds Tryd.pinned (.plain (OpenSpec.upto globMatchSpec)) globMatchUptoCard

/-- THE SECOND FORM's CARD OF 'wherrylaw1.GlobNeedsDirs'. -/
def globNeedsDirsUptoCard : Claim7 := { stood := { row := globNeedsDirsUptoRow, standIns := [], harness := (true, "fd4d2c5130d6a1bd654965c5e3ec60fdd9aff6230e882586474af5224985125a"), looks := true }, kinds := [], alts := [], laidByText := true, laidKinds := [.data, .pinned], laidTests := true, laidLooks := .later }
def GlobNeedsDirsUptoCardSaid : Prop := Claim7.holds Tryd.pinned (.plain (OpenSpec.upto globNeedsDirsSpec)) globNeedsDirsUptoCard

/-- THE SECOND FORM's CARD OF 'wherrylaw1.FilterLosesNothing'. -/
def filterLosesNothingUptoCard : Claim7 := { stood := { row := filterLosesNothingUptoRow, standIns := [], harness := (true, "fd4d2c5130d6a1bd654965c5e3ec60fdd9aff6230e882586474af5224985125a"), looks := true }, kinds := [], alts := [], laidByText := true, laidKinds := [.data, .pinned], laidTests := true, laidLooks := .later }
def FilterLosesNothingUptoCardSaid : Prop := Claim7.holds Tryd.pinned (.plain (OpenSpec.upto filterLosesNothingSpec)) filterLosesNothingUptoCard

/-- THE SECOND FORM's CARD OF 'wherrylaw1.AgesMatch'. -/
def agesMatchUptoCard : Claim7 := { stood := { row := agesMatchUptoRow, standIns := [], harness := (true, "fd4d2c5130d6a1bd654965c5e3ec60fdd9aff6230e882586474af5224985125a"), looks := true }, kinds := [], alts := [], laidByText := true, laidKinds := [.data, .data, .data, .data, .sentinel, .sentinel, .pinned], laidTests := true, laidLooks := .later }
def AgesMatchUptoCardSaid : Prop := Claim7.holds Tryd.pinned (.plain (OpenSpec.upto agesMatchSpec)) agesMatchUptoCard

/-- THE SECOND FORM's CARD OF 'wherrylaw1.SizesMatch'. -/
def sizesMatchUptoCard : Claim7 := { stood := { row := sizesMatchUptoRow, standIns := [], harness := (true, "fd4d2c5130d6a1bd654965c5e3ec60fdd9aff6230e882586474af5224985125a"), looks := true }, kinds := [], alts := [], laidByText := true, laidKinds := [.data, .data, .data, .data, .sentinel, .sentinel, .pinned], laidTests := true, laidLooks := .later }
def SizesMatchUptoCardSaid : Prop := Claim7.holds Tryd.pinned (.plain (OpenSpec.upto sizesMatchSpec)) sizesMatchUptoCard

/-- THE SECOND FORM's CARD OF 'wherrylaw1.FilterChecks'. -/
def filterChecksUptoCard : Claim7 := { stood := { row := filterChecksUptoRow, standIns := [], harness := (true, "fd4d2c5130d6a1bd654965c5e3ec60fdd9aff6230e882586474af5224985125a"), looks := true }, kinds := [], alts := [], laidByText := true, laidKinds := [.data, .pinned], laidTests := true, laidLooks := .later }
def FilterChecksUptoCardSaid : Prop := Claim7.holds Tryd.pinned (.plain (OpenSpec.upto filterChecksSpec)) filterChecksUptoCard
end Rows
end Go.Proofs.YtodafniobppglaaDoor
