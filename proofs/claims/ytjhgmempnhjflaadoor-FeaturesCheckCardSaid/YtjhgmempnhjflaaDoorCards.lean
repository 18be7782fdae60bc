/-
  DERIVED. GIVEN WITH THE SEED: THE CARDS: each row of YtjhgmempnhjflaaDoorRows.lean that lists a variable, with what it lists TIED to the program's text (the seventh form; the later family's looks); each row that meets fmt, with fmt's text TOLD by the authors' own Lean function (tested against real Go, not proved from fmt's source: count such statements apart). THE CARD IS WHAT COUNTS. Prove the row's statement (the work); the ties are given (YtjhgmempnhjflaaDoorTie.lean); close each card by the builder's one call (the guide's Derived/Test/ToyasCard.lean, 'card_holds'). Laid BY PROGRAM, IN A SANDBOX (cutbox-door.mjs). By AI agents, Wed Nov 11 2026. No macro, syntax, notation, axiom, sorry.
-/
import Derived.Test.YtjhgmempnhjflaaDoorRows
import GoSem.ClaimSeven
namespace Go.Proofs.YtjhgmempnhjflaaDoor
namespace Rows

/-- THE TIED CARD OF 'wherrylaw1.ClockMoves'. -/
def clockMovesCard : Claim7 := { stood := { row := clockMovesRow, standIns := [], harness := (true, "e966918855a8b0dcc0c12d4ea43bfdab1a0a79c37f213d37069466c1010963f1"), looks := false }, kinds := [], alts := [], laidByText := true, laidKinds := [.data, .pinned], laidTests := true, laidLooks := .later }
def ClockMovesCardSaid : Prop := Claim7.holds Tryd.pinned (.plain (OpenSpec.ofChange clockMovesSpec)) clockMovesCard

/-- THE TIED CARD OF 'wherrylaw1.TimesAreTruncated'. -/
def timesAreTruncatedCard : Claim7 := { stood := { row := timesAreTruncatedRow, standIns := [], harness := (true, "e966918855a8b0dcc0c12d4ea43bfdab1a0a79c37f213d37069466c1010963f1"), looks := false }, kinds := [], alts := [], laidByText := true, laidKinds := [.data, .pinned], laidTests := true, laidLooks := .later }
def TimesAreTruncatedCardSaid : Prop := Claim7.holds Tryd.pinned (.plain (OpenSpec.ofChange timesAreTruncatedSpec)) timesAreTruncatedCard

/-- THE TIED CARD OF 'wherrylaw1.NamesRelative'. -/
def namesRelativeCard : Claim7 := { stood := { row := namesRelativeRow, standIns := [], harness := (true, "e966918855a8b0dcc0c12d4ea43bfdab1a0a79c37f213d37069466c1010963f1"), looks := false }, kinds := [], alts := [], laidByText := true, laidKinds := [.data, .pinned], laidTests := true, laidLooks := .later }
def NamesRelativeCardSaid : Prop := Claim7.holds Tryd.pinned (.plain (OpenSpec.ofChange namesRelativeSpec)) namesRelativeCard

/-- THE TIED CARD OF 'wherrylaw1.NamesOrder'. -/
def namesOrderCard : Claim7 := { stood := { row := namesOrderRow, standIns := [], harness := (true, "e966918855a8b0dcc0c12d4ea43bfdab1a0a79c37f213d37069466c1010963f1"), looks := false }, kinds := [], alts := [], laidByText := true, laidKinds := [.data, .pinned], laidTests := true, laidLooks := .later }
def NamesOrderCardSaid : Prop := Claim7.holds Tryd.pinned (.plain (OpenSpec.ofChange namesOrderSpec)) namesOrderCard

/-- THE TIED CARD OF 'wherrylaw1.FeaturesCheck'. -/
def featuresCheckCard : Claim7 := { stood := { row := featuresCheckRow, standIns := [], harness := (true, "e966918855a8b0dcc0c12d4ea43bfdab1a0a79c37f213d37069466c1010963f1"), looks := false }, kinds := [], alts := [], laidByText := true, laidKinds := [.data, .pinned], laidTests := true, laidLooks := .later }
def FeaturesCheckCardSaid : Prop := Claim7.holds Tryd.pinned (.plain (OpenSpec.ofChange featuresCheckSpec)) featuresCheckCard

/-- THE TIED CARD OF 'wherrylaw1.NamesJoin'. -/
def namesJoinCard : Claim7 := { stood := { row := namesJoinRow, standIns := [], harness := (true, "e966918855a8b0dcc0c12d4ea43bfdab1a0a79c37f213d37069466c1010963f1"), looks := false }, kinds := [], alts := [], laidByText := true, laidKinds := [.data, .pinned], laidTests := true, laidLooks := .later }
def NamesJoinCardSaid : Prop := Claim7.holds Tryd.pinned (.plain (OpenSpec.ofChange namesJoinSpec)) namesJoinCard

/-- THE TIED CARD OF 'wherrylaw1.NamesClean'. -/
def namesCleanCard : Claim7 := { stood := { row := namesCleanRow, standIns := [], harness := (true, "e966918855a8b0dcc0c12d4ea43bfdab1a0a79c37f213d37069466c1010963f1"), looks := false }, kinds := [], alts := [], laidByText := true, laidKinds := [.data, .pinned], laidTests := true, laidLooks := .later }
def NamesCleanCardSaid : Prop := Claim7.holds Tryd.pinned (.plain (OpenSpec.ofChange namesCleanSpec)) namesCleanCard

/-- THE TIED CARD OF 'wherrylaw1.NamesCheck'. -/
def namesCheckCard : Claim7 := { stood := { row := namesCheckRow, standIns := [], harness := (true, "e966918855a8b0dcc0c12d4ea43bfdab1a0a79c37f213d37069466c1010963f1"), looks := false }, kinds := [], alts := [], laidByText := true, laidKinds := [.data, .pinned], laidTests := true, laidLooks := .later }
def NamesCheckCardSaid : Prop := Claim7.holds Tryd.pinned (.plain (OpenSpec.ofChange namesCheckSpec)) namesCheckCard

/-- THE TIED CARD OF 'wherrylaw1.EncodingIsOneToOne'. -/
def encodingIsOneToOneCard : Claim7 := { stood := { row := encodingIsOneToOneRow, standIns := [], harness := (true, "e966918855a8b0dcc0c12d4ea43bfdab1a0a79c37f213d37069466c1010963f1"), looks := false }, kinds := [], alts := [], laidByText := true, laidKinds := [.data, .pinned], laidTests := true, laidLooks := .later }
def EncodingIsOneToOneCardSaid : Prop := Claim7.holds Tryd.pinned (.plain (OpenSpec.ofChange encodingIsOneToOneSpec)) encodingIsOneToOneCard

/-- THE TIED CARD OF 'wherrylaw1.EncodingChecks'. -/
def encodingChecksCard : Claim7 := { stood := { row := encodingChecksRow, standIns := [], harness := (true, "e966918855a8b0dcc0c12d4ea43bfdab1a0a79c37f213d37069466c1010963f1"), looks := false }, kinds := [], alts := [], laidByText := true, laidKinds := [.data, .pinned], laidTests := true, laidLooks := .later }
def EncodingChecksCardSaid : Prop := Claim7.holds Tryd.pinned (.plain (OpenSpec.ofChange encodingChecksSpec)) encodingChecksCard

/-- THE TIED CARD OF 'wherrylaw1.DecodeMatches'. -/
def decodeMatchesCard : Claim7 := { stood := { row := decodeMatchesRow, standIns := [], harness := (true, "e966918855a8b0dcc0c12d4ea43bfdab1a0a79c37f213d37069466c1010963f1"), looks := false }, kinds := [], alts := [], laidByText := true, laidKinds := [.data, .pinned], laidTests := true, laidLooks := .later }
def DecodeMatchesCardSaid : Prop := Claim7.holds Tryd.pinned (.plain (OpenSpec.ofChange decodeMatchesSpec)) decodeMatchesCard

/-- THE TIED CARD OF 'wherrylaw1.EncodingMatches'. -/
def encodingMatchesCard : Claim7 := { stood := { row := encodingMatchesRow, standIns := [], harness := (true, "e966918855a8b0dcc0c12d4ea43bfdab1a0a79c37f213d37069466c1010963f1"), looks := false }, kinds := [], alts := [], laidByText := true, laidKinds := [.data, .pinned], laidTests := true, laidLooks := .later }
def EncodingMatchesCardSaid : Prop := Claim7.holds Tryd.pinned (.plain (OpenSpec.ofChange encodingMatchesSpec)) encodingMatchesCard

/-- THE SECOND FORM's CARD OF 'wherrylaw1.ClockMoves'. -/
def clockMovesUptoCard : Claim7 := { stood := { row := clockMovesUptoRow, standIns := [], harness := (true, "e966918855a8b0dcc0c12d4ea43bfdab1a0a79c37f213d37069466c1010963f1"), looks := false }, kinds := [], alts := [], laidByText := true, laidKinds := [.data, .pinned], laidTests := true, laidLooks := .later }
def ClockMovesUptoCardSaid : Prop := Claim7.holds Tryd.pinned (.plain (OpenSpec.upto clockMovesSpec)) clockMovesUptoCard

/-- THE SECOND FORM's CARD OF 'wherrylaw1.TimesAreTruncated'. -/
def timesAreTruncatedUptoCard : Claim7 := { stood := { row := timesAreTruncatedUptoRow, standIns := [], harness := (true, "e966918855a8b0dcc0c12d4ea43bfdab1a0a79c37f213d37069466c1010963f1"), looks := false }, kinds := [], alts := [], laidByText := true, laidKinds := [.data, .pinned], laidTests := true, laidLooks := .later }
def TimesAreTruncatedUptoCardSaid : Prop := Claim7.holds Tryd.pinned (.plain (OpenSpec.upto timesAreTruncatedSpec)) timesAreTruncatedUptoCard

/-- THE SECOND FORM's CARD OF 'wherrylaw1.NamesRelative'. -/
def namesRelativeUptoCard : Claim7 := { stood := { row := namesRelativeUptoRow, standIns := [], harness := (true, "e966918855a8b0dcc0c12d4ea43bfdab1a0a79c37f213d37069466c1010963f1"), looks := false }, kinds := [], alts := [], laidByText := true, laidKinds := [.data, .pinned], laidTests := true, laidLooks := .later }
def NamesRelativeUptoCardSaid : Prop := Claim7.holds Tryd.pinned (.plain (OpenSpec.upto namesRelativeSpec)) namesRelativeUptoCard

/-- THE SECOND FORM's CARD OF 'wherrylaw1.NamesOrder'. -/
def namesOrderUptoCard : Claim7 := { stood := { row := namesOrderUptoRow, standIns := [], harness := (true, "e966918855a8b0dcc0c12d4ea43bfdab1a0a79c37f213d37069466c1010963f1"), looks := false }, kinds := [], alts := [], laidByText := true, laidKinds := [.data, .pinned], laidTests := true, laidLooks := .later }
def NamesOrderUptoCardSaid : Prop := Claim7.holds Tryd.pinned (.plain (OpenSpec.upto namesOrderSpec)) namesOrderUptoCard

/-- THE SECOND FORM's CARD OF 'wherrylaw1.FeaturesCheck'. -/
def featuresCheckUptoCard : Claim7 := { stood := { row := featuresCheckUptoRow, standIns := [], harness := (true, "e966918855a8b0dcc0c12d4ea43bfdab1a0a79c37f213d37069466c1010963f1"), looks := false }, kinds := [], alts := [], laidByText := true, laidKinds := [.data, .pinned], laidTests := true, laidLooks := .later }
def FeaturesCheckUptoCardSaid : Prop := Claim7.holds Tryd.pinned (.plain (OpenSpec.upto featuresCheckSpec)) featuresCheckUptoCard

/-- THE SECOND FORM's CARD OF 'wherrylaw1.NamesJoin'. -/
def namesJoinUptoCard : Claim7 := { stood := { row := namesJoinUptoRow, standIns := [], harness := (true, "e966918855a8b0dcc0c12d4ea43bfdab1a0a79c37f213d37069466c1010963f1"), looks := false }, kinds := [], alts := [], laidByText := true, laidKinds := [.data, .pinned], laidTests := true, laidLooks := .later }
def NamesJoinUptoCardSaid : Prop := Claim7.holds Tryd.pinned (.plain (OpenSpec.upto namesJoinSpec)) namesJoinUptoCard

/-- THE SECOND FORM's CARD OF 'wherrylaw1.NamesClean'. -/
def namesCleanUptoCard : Claim7 := { stood := { row := namesCleanUptoRow, standIns := [], harness := (true, "e966918855a8b0dcc0c12d4ea43bfdab1a0a79c37f213d37069466c1010963f1"), looks := false }, kinds := [], alts := [], laidByText := true, laidKinds := [.data, .pinned], laidTests := true, laidLooks := .later }
def NamesCleanUptoCardSaid : Prop := Claim7.holds Tryd.pinned (.plain (OpenSpec.upto namesCleanSpec)) namesCleanUptoCard

/-- THE SECOND FORM's CARD OF 'wherrylaw1.NamesCheck'. -/
def namesCheckUptoCard : Claim7 := { stood := { row := namesCheckUptoRow, standIns := [], harness := (true, "e966918855a8b0dcc0c12d4ea43bfdab1a0a79c37f213d37069466c1010963f1"), looks := false }, kinds := [], alts := [], laidByText := true, laidKinds := [.data, .pinned], laidTests := true, laidLooks := .later }
def NamesCheckUptoCardSaid : Prop := Claim7.holds Tryd.pinned (.plain (OpenSpec.upto namesCheckSpec)) namesCheckUptoCard

/-- THE SECOND FORM's CARD OF 'wherrylaw1.EncodingIsOneToOne'. -/
def encodingIsOneToOneUptoCard : Claim7 := { stood := { row := encodingIsOneToOneUptoRow, standIns := [], harness := (true, "e966918855a8b0dcc0c12d4ea43bfdab1a0a79c37f213d37069466c1010963f1"), looks := false }, kinds := [], alts := [], laidByText := true, laidKinds := [.data, .pinned], laidTests := true, laidLooks := .later }
def EncodingIsOneToOneUptoCardSaid : Prop := Claim7.holds Tryd.pinned (.plain (OpenSpec.upto encodingIsOneToOneSpec)) encodingIsOneToOneUptoCard

/-- THE SECOND FORM's CARD OF 'wherrylaw1.EncodingChecks'. -/
def encodingChecksUptoCard : Claim7 := { stood := { row := encodingChecksUptoRow, standIns := [], harness := (true, "e966918855a8b0dcc0c12d4ea43bfdab1a0a79c37f213d37069466c1010963f1"), looks := false }, kinds := [], alts := [], laidByText := true, laidKinds := [.data, .pinned], laidTests := true, laidLooks := .later }
def EncodingChecksUptoCardSaid : Prop := Claim7.holds Tryd.pinned (.plain (OpenSpec.upto encodingChecksSpec)) encodingChecksUptoCard

/-- THE SECOND FORM's CARD OF 'wherrylaw1.DecodeMatches'. -/
def decodeMatchesUptoCard : Claim7 := { stood := { row := decodeMatchesUptoRow, standIns := [], harness := (true, "e966918855a8b0dcc0c12d4ea43bfdab1a0a79c37f213d37069466c1010963f1"), looks := false }, kinds := [], alts := [], laidByText := true, laidKinds := [.data, .pinned], laidTests := true, laidLooks := .later }
def DecodeMatchesUptoCardSaid : Prop := Claim7.holds Tryd.pinned (.plain (OpenSpec.upto decodeMatchesSpec)) decodeMatchesUptoCard

/-- THE SECOND FORM's CARD OF 'wherrylaw1.EncodingMatches'. -/
def encodingMatchesUptoCard : Claim7 := { stood := { row := encodingMatchesUptoRow, standIns := [], harness := (true, "e966918855a8b0dcc0c12d4ea43bfdab1a0a79c37f213d37069466c1010963f1"), looks := false }, kinds := [], alts := [], laidByText := true, laidKinds := [.data, .pinned], laidTests := true, laidLooks := .later }
def EncodingMatchesUptoCardSaid : Prop := Claim7.holds Tryd.pinned (.plain (OpenSpec.upto encodingMatchesSpec)) encodingMatchesUptoCard
end Rows
end Go.Proofs.YtjhgmempnhjflaaDoor
