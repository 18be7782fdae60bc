/-
  NARROWER THAN 'FOR EVERY INPUT', by the rows' own cells (each row's printed sentence says how): ClockMoves: laid · TimesAreTruncated: laid · NamesRelative: laid · NamesOrder: laid · FeaturesCheck: laid · NamesJoin: laid · NamesClean: laid · NamesCheck: laid · EncodingIsOneToOne: laid · EncodingChecks: laid · DecodeMatches: laid · EncodingMatches: laid.
  DERIVED. THE GIVEN ROWS OF THIS SEAT. 12 by the template 'for every input the law returns true; each argument reads behind the call as it read before'; 0 by the template 'total and deterministic' (their statements: YtjhgmempnhjflaaDoorTotals.lean).
  GIVEN WITH THE SEED: the statements are not yours to turn. If you find one false, say at which input.
  Laid BY PROGRAM, IN A SANDBOX (cutbox-rows.mjs): the forced cells as the released guide's own fill.sh prints them over the translation b930669fbc4a83c6… (all of the seat's roots in one cut). By AI agents, Wed Nov 11 2026. No macro, syntax, notation, axiom, sorry.
-/
import Derived.Test.YtjhgmempnhjflaaDoorChecked
import GoSem.PinnedTables
import GoSem.Claim
import GoSem.ClaimJoined
import GoSem.ClaimMapViews
import Derived.JoinedTies
import Derived.KernelRfl
namespace Go.Proofs.YtjhgmempnhjflaaDoor
/- THE CELL 'sum', in the pinned program and in every row, IS THE sha256 OF THE DUMP (.gsa) THAT YtjhgmempnhjflaaDoorProg.lean LOADS. Nothing in Lean hashes anything: it is a label: what it is worth is what the hold of that sum in a sandbox is worth. -/
noncomputable def Tryd.pinned : Pinned := { name := "ytjhgmempnhjflaadoor", sum := "b930669fbc4a83c602c717a63b8bb9d1496fe631d221f0c5f4089d0596340b2d", checked := Tryd.checked }
namespace Rows
def none {H : Type} : Left H := { results := [], args := [] }

/- WHAT THE LISTED PACKAGE-LEVEL VARIABLES READ AS WHEN THE CALL BEGINS. Each datum BY PROGRAM (the guide's laid-datum.mjs) off the statement by which the dump's own 'gosem.cut.vars' lays the variable. In a bare row this is a premise. The card (YtjhgmempnhjflaaDoorCards.lean) ties it to the program's text. -/
def laid_unicode_utf8_acceptRanges {H : Type} : DataW H := .agg [.agg [.lit (.int .u8 128), .lit (.int .u8 191)], .agg [.lit (.int .u8 160), .lit (.int .u8 191)], .agg [.lit (.int .u8 128), .lit (.int .u8 159)], .agg [.lit (.int .u8 144), .lit (.int .u8 191)], .agg [.lit (.int .u8 128), .lit (.int .u8 143)], .agg [.lit (.int .u8 0), .lit (.int .u8 0)], .agg [.lit (.int .u8 0), .lit (.int .u8 0)], .agg [.lit (.int .u8 0), .lit (.int .u8 0)], .agg [.lit (.int .u8 0), .lit (.int .u8 0)], .agg [.lit (.int .u8 0), .lit (.int .u8 0)], .agg [.lit (.int .u8 0), .lit (.int .u8 0)], .agg [.lit (.int .u8 0), .lit (.int .u8 0)], .agg [.lit (.int .u8 0), .lit (.int .u8 0)], .agg [.lit (.int .u8 0), .lit (.int .u8 0)], .agg [.lit (.int .u8 0), .lit (.int .u8 0)], .agg [.lit (.int .u8 0), .lit (.int .u8 0)]]
/-- One of Go's own tables, pinned by name: the form's constant. -/
def laid_unicode_utf8_first : DataW Unit := Go.Pinned.utf8First

/-- 'wherrylaw1.ClockMoves': WHATEVER THE INPUT: true; the input reads as it did. -/
def clockMovesSpec : ChangeSpec := { name := "clockMoves", fn := fun _ => fun
  | [d1, d2] => { results := [.lit (.bool true)], args := [d1, d2] }
  | _ => none }
def clockMovesRow : OpenClaim := { program := "ytjhgmempnhjflaadoor", sum := "b930669fbc4a83c602c717a63b8bb9d1496fe631d221f0c5f4089d0596340b2d", func := "wherryman/wherrylaw1.ClockMoves", spec := "clockMoves", inPlace := ["internal/bytealg.CountString", "internal/bytealg.IndexByteString", "internal/bytealg.IndexString"], named := ["unicode/utf8.first", "unicode/utf8.acceptRanges", "internal/bytealg.MaxLen"], apart := false, laid := [("unicode/utf8.acceptRanges", laid_unicode_utf8_acceptRanges), ("unicode/utf8.first", laid_unicode_utf8_first)] }
def ClockMovesSaid : Prop := clockMovesRow.holds Tryd.pinned (OpenSpec.ofChange clockMovesSpec)

/-- ITS FALSE NEIGHBOUR: 'it returns false'. Refute it at one input. -/
def clockMovesWrong : ChangeSpec := { name := "clockMoves", fn := fun _ => fun
  | [d1, d2] => { results := [.lit (.bool false)], args := [d1, d2] }
  | _ => none }
def ClockMovesWrongFalsely : Prop := clockMovesRow.holds Tryd.pinned (OpenSpec.ofChange clockMovesWrong)

/-- 'wherrylaw1.TimesAreTruncated': WHATEVER THE INPUT: true; the input reads as it did. -/
def timesAreTruncatedSpec : ChangeSpec := { name := "timesAreTruncated", fn := fun _ => fun
  | [d1, d2] => { results := [.lit (.bool true)], args := [d1, d2] }
  | _ => none }
def timesAreTruncatedRow : OpenClaim := { program := "ytjhgmempnhjflaadoor", sum := "b930669fbc4a83c602c717a63b8bb9d1496fe631d221f0c5f4089d0596340b2d", func := "wherryman/wherrylaw1.TimesAreTruncated", spec := "timesAreTruncated", inPlace := ["internal/bytealg.CountString", "internal/bytealg.IndexByteString", "internal/bytealg.IndexString"], named := ["unicode/utf8.first", "unicode/utf8.acceptRanges", "internal/bytealg.MaxLen"], apart := false, laid := [("unicode/utf8.acceptRanges", laid_unicode_utf8_acceptRanges), ("unicode/utf8.first", laid_unicode_utf8_first)] }
def TimesAreTruncatedSaid : Prop := timesAreTruncatedRow.holds Tryd.pinned (OpenSpec.ofChange timesAreTruncatedSpec)

/-- ITS FALSE NEIGHBOUR: 'it returns false'. Refute it at one input. -/
def timesAreTruncatedWrong : ChangeSpec := { name := "timesAreTruncated", fn := fun _ => fun
  | [d1, d2] => { results := [.lit (.bool false)], args := [d1, d2] }
  | _ => none }
def TimesAreTruncatedWrongFalsely : Prop := timesAreTruncatedRow.holds Tryd.pinned (OpenSpec.ofChange timesAreTruncatedWrong)

/-- 'wherrylaw1.NamesRelative': WHATEVER THE INPUT: true; the input reads as it did. -/
def namesRelativeSpec : ChangeSpec := { name := "namesRelative", fn := fun _ => fun
  | [d1, d2] => { results := [.lit (.bool true)], args := [d1, d2] }
  | _ => none }
def namesRelativeRow : OpenClaim := { program := "ytjhgmempnhjflaadoor", sum := "b930669fbc4a83c602c717a63b8bb9d1496fe631d221f0c5f4089d0596340b2d", func := "wherryman/wherrylaw1.NamesRelative", spec := "namesRelative", inPlace := ["internal/bytealg.CountString", "internal/bytealg.IndexByteString", "internal/bytealg.IndexString"], unfollowed := true, recurses := true, named := ["unicode/utf8.first", "unicode/utf8.acceptRanges", "internal/bytealg.MaxLen"], apart := false, laid := [("unicode/utf8.acceptRanges", laid_unicode_utf8_acceptRanges), ("unicode/utf8.first", laid_unicode_utf8_first)] }
def NamesRelativeSaid : Prop := namesRelativeRow.holds Tryd.pinned (OpenSpec.ofChange namesRelativeSpec)

/-- ITS FALSE NEIGHBOUR: 'it returns false'. Refute it at one input. -/
def namesRelativeWrong : ChangeSpec := { name := "namesRelative", fn := fun _ => fun
  | [d1, d2] => { results := [.lit (.bool false)], args := [d1, d2] }
  | _ => none }
def NamesRelativeWrongFalsely : Prop := namesRelativeRow.holds Tryd.pinned (OpenSpec.ofChange namesRelativeWrong)

/-- 'wherrylaw1.NamesOrder': WHATEVER THE INPUT: true; the input reads as it did. -/
def namesOrderSpec : ChangeSpec := { name := "namesOrder", fn := fun _ => fun
  | [d1, d2, d3] => { results := [.lit (.bool true)], args := [d1, d2, d3] }
  | _ => none }
def namesOrderRow : OpenClaim := { program := "ytjhgmempnhjflaadoor", sum := "b930669fbc4a83c602c717a63b8bb9d1496fe631d221f0c5f4089d0596340b2d", func := "wherryman/wherrylaw1.NamesOrder", spec := "namesOrder", inPlace := ["internal/bytealg.CountString", "internal/bytealg.IndexByteString", "internal/bytealg.IndexString"], unfollowed := true, recurses := true, named := ["unicode/utf8.first", "unicode/utf8.acceptRanges", "internal/bytealg.MaxLen"], apart := false, laid := [("unicode/utf8.acceptRanges", laid_unicode_utf8_acceptRanges), ("unicode/utf8.first", laid_unicode_utf8_first)] }
def NamesOrderSaid : Prop := namesOrderRow.holds Tryd.pinned (OpenSpec.ofChange namesOrderSpec)

/-- ITS FALSE NEIGHBOUR: 'it returns false'. Refute it at one input. -/
def namesOrderWrong : ChangeSpec := { name := "namesOrder", fn := fun _ => fun
  | [d1, d2, d3] => { results := [.lit (.bool false)], args := [d1, d2, d3] }
  | _ => none }
def NamesOrderWrongFalsely : Prop := namesOrderRow.holds Tryd.pinned (OpenSpec.ofChange namesOrderWrong)

/-- 'wherrylaw1.FeaturesCheck': WHATEVER THE INPUT: true; the input reads as it did. -/
def featuresCheckSpec : ChangeSpec := { name := "featuresCheck", fn := fun _ => fun
  | [d1, d2, d3] => { results := [.lit (.bool true)], args := [d1, d2, d3] }
  | _ => none }
def featuresCheckRow : OpenClaim := { program := "ytjhgmempnhjflaadoor", sum := "b930669fbc4a83c602c717a63b8bb9d1496fe631d221f0c5f4089d0596340b2d", func := "wherryman/wherrylaw1.FeaturesCheck", spec := "featuresCheck", inPlace := ["internal/bytealg.CountString", "internal/bytealg.IndexByteString", "internal/bytealg.IndexString"], unfollowed := true, recurses := true, named := ["unicode/utf8.first", "unicode/utf8.acceptRanges", "internal/bytealg.MaxLen"], apart := false, laid := [("unicode/utf8.acceptRanges", laid_unicode_utf8_acceptRanges), ("unicode/utf8.first", laid_unicode_utf8_first)] }
def FeaturesCheckSaid : Prop := featuresCheckRow.holds Tryd.pinned (OpenSpec.ofChange featuresCheckSpec)

/-- ITS FALSE NEIGHBOUR: 'it returns false'. Refute it at one input. -/
def featuresCheckWrong : ChangeSpec := { name := "featuresCheck", fn := fun _ => fun
  | [d1, d2, d3] => { results := [.lit (.bool false)], args := [d1, d2, d3] }
  | _ => none }
def FeaturesCheckWrongFalsely : Prop := featuresCheckRow.holds Tryd.pinned (OpenSpec.ofChange featuresCheckWrong)

/-- 'wherrylaw1.NamesJoin': WHATEVER THE INPUT: true; the input reads as it did. -/
def namesJoinSpec : ChangeSpec := { name := "namesJoin", fn := fun _ => fun
  | [d] => { results := [.lit (.bool true)], args := [d] }
  | _ => none }
def namesJoinRow : OpenClaim := { program := "ytjhgmempnhjflaadoor", sum := "b930669fbc4a83c602c717a63b8bb9d1496fe631d221f0c5f4089d0596340b2d", func := "wherryman/wherrylaw1.NamesJoin", spec := "namesJoin", inPlace := ["internal/bytealg.CountString", "internal/bytealg.IndexByteString", "internal/bytealg.IndexString", "internal/abi.NoEscape", "internal/bytealg.MakeNoZero"], unfollowed := true, recurses := true, named := ["unicode/utf8.first", "unicode/utf8.acceptRanges", "internal/bytealg.MaxLen"], apart := false, laid := [("unicode/utf8.acceptRanges", laid_unicode_utf8_acceptRanges), ("unicode/utf8.first", laid_unicode_utf8_first)] }
def NamesJoinSaid : Prop := namesJoinRow.holds Tryd.pinned (OpenSpec.ofChange namesJoinSpec)

/-- ITS FALSE NEIGHBOUR: 'it returns false'. Refute it at one input. -/
def namesJoinWrong : ChangeSpec := { name := "namesJoin", fn := fun _ => fun
  | [d] => { results := [.lit (.bool false)], args := [d] }
  | _ => none }
def NamesJoinWrongFalsely : Prop := namesJoinRow.holds Tryd.pinned (OpenSpec.ofChange namesJoinWrong)

/-- 'wherrylaw1.NamesClean': WHATEVER THE INPUT: true; the input reads as it did. -/
def namesCleanSpec : ChangeSpec := { name := "namesClean", fn := fun _ => fun
  | [d] => { results := [.lit (.bool true)], args := [d] }
  | _ => none }
def namesCleanRow : OpenClaim := { program := "ytjhgmempnhjflaadoor", sum := "b930669fbc4a83c602c717a63b8bb9d1496fe631d221f0c5f4089d0596340b2d", func := "wherryman/wherrylaw1.NamesClean", spec := "namesClean", inPlace := ["internal/bytealg.CountString", "internal/bytealg.IndexByteString", "internal/bytealg.IndexString", "internal/abi.NoEscape", "internal/bytealg.MakeNoZero"], unfollowed := true, recurses := true, named := ["unicode/utf8.first", "unicode/utf8.acceptRanges", "internal/bytealg.MaxLen"], apart := false, laid := [("unicode/utf8.acceptRanges", laid_unicode_utf8_acceptRanges), ("unicode/utf8.first", laid_unicode_utf8_first)] }
def NamesCleanSaid : Prop := namesCleanRow.holds Tryd.pinned (OpenSpec.ofChange namesCleanSpec)

/-- ITS FALSE NEIGHBOUR: 'it returns false'. Refute it at one input. -/
def namesCleanWrong : ChangeSpec := { name := "namesClean", fn := fun _ => fun
  | [d] => { results := [.lit (.bool false)], args := [d] }
  | _ => none }
def NamesCleanWrongFalsely : Prop := namesCleanRow.holds Tryd.pinned (OpenSpec.ofChange namesCleanWrong)

/-- 'wherrylaw1.NamesCheck': WHATEVER THE INPUT: true; the input reads as it did. -/
def namesCheckSpec : ChangeSpec := { name := "namesCheck", fn := fun _ => fun
  | [d] => { results := [.lit (.bool true)], args := [d] }
  | _ => none }
def namesCheckRow : OpenClaim := { program := "ytjhgmempnhjflaadoor", sum := "b930669fbc4a83c602c717a63b8bb9d1496fe631d221f0c5f4089d0596340b2d", func := "wherryman/wherrylaw1.NamesCheck", spec := "namesCheck", inPlace := ["internal/bytealg.CountString", "internal/bytealg.IndexByteString", "internal/bytealg.IndexString", "internal/abi.NoEscape", "internal/bytealg.MakeNoZero"], unfollowed := true, recurses := true, named := ["unicode/utf8.first", "unicode/utf8.acceptRanges", "internal/bytealg.MaxLen"], apart := false, laid := [("unicode/utf8.acceptRanges", laid_unicode_utf8_acceptRanges), ("unicode/utf8.first", laid_unicode_utf8_first)] }
def NamesCheckSaid : Prop := namesCheckRow.holds Tryd.pinned (OpenSpec.ofChange namesCheckSpec)

/-- ITS FALSE NEIGHBOUR: 'it returns false'. Refute it at one input. -/
def namesCheckWrong : ChangeSpec := { name := "namesCheck", fn := fun _ => fun
  | [d] => { results := [.lit (.bool false)], args := [d] }
  | _ => none }
def NamesCheckWrongFalsely : Prop := namesCheckRow.holds Tryd.pinned (OpenSpec.ofChange namesCheckWrong)

/-- 'wherrylaw1.EncodingIsOneToOne': WHATEVER THE INPUT: true; the input reads as it did. -/
def encodingIsOneToOneSpec : ChangeSpec := { name := "encodingIsOneToOne", fn := fun _ => fun
  | [d1, d2, d3] => { results := [.lit (.bool true)], args := [d1, d2, d3] }
  | _ => none }
def encodingIsOneToOneRow : OpenClaim := { program := "ytjhgmempnhjflaadoor", sum := "b930669fbc4a83c602c717a63b8bb9d1496fe631d221f0c5f4089d0596340b2d", func := "wherryman/wherrylaw1.EncodingIsOneToOne", spec := "encodingIsOneToOne", inPlace := ["internal/bytealg.CountString", "internal/bytealg.IndexByteString", "internal/bytealg.IndexString", "internal/abi.NoEscape", "internal/bytealg.MakeNoZero"], named := ["unicode/utf8.first", "unicode/utf8.acceptRanges", "internal/bytealg.MaxLen"], apart := false, laid := [("unicode/utf8.acceptRanges", laid_unicode_utf8_acceptRanges), ("unicode/utf8.first", laid_unicode_utf8_first)] }
def EncodingIsOneToOneSaid : Prop := encodingIsOneToOneRow.holds Tryd.pinned (OpenSpec.ofChange encodingIsOneToOneSpec)

/-- ITS FALSE NEIGHBOUR: 'it returns false'. Refute it at one input. -/
def encodingIsOneToOneWrong : ChangeSpec := { name := "encodingIsOneToOne", fn := fun _ => fun
  | [d1, d2, d3] => { results := [.lit (.bool false)], args := [d1, d2, d3] }
  | _ => none }
def EncodingIsOneToOneWrongFalsely : Prop := encodingIsOneToOneRow.holds Tryd.pinned (OpenSpec.ofChange encodingIsOneToOneWrong)

/-- 'wherrylaw1.EncodingChecks': WHATEVER THE INPUT: true; the input reads as it did. -/
def encodingChecksSpec : ChangeSpec := { name := "encodingChecks", fn := fun _ => fun
  | [d1, d2] => { results := [.lit (.bool true)], args := [d1, d2] }
  | _ => none }
def encodingChecksRow : OpenClaim := { program := "ytjhgmempnhjflaadoor", sum := "b930669fbc4a83c602c717a63b8bb9d1496fe631d221f0c5f4089d0596340b2d", func := "wherryman/wherrylaw1.EncodingChecks", spec := "encodingChecks", inPlace := ["internal/bytealg.CountString", "internal/bytealg.IndexByteString", "internal/bytealg.IndexString", "internal/abi.NoEscape", "internal/bytealg.MakeNoZero"], named := ["unicode/utf8.first", "unicode/utf8.acceptRanges", "internal/bytealg.MaxLen"], apart := false, laid := [("unicode/utf8.acceptRanges", laid_unicode_utf8_acceptRanges), ("unicode/utf8.first", laid_unicode_utf8_first)] }
def EncodingChecksSaid : Prop := encodingChecksRow.holds Tryd.pinned (OpenSpec.ofChange encodingChecksSpec)

/-- ITS FALSE NEIGHBOUR: 'it returns false'. Refute it at one input. -/
def encodingChecksWrong : ChangeSpec := { name := "encodingChecks", fn := fun _ => fun
  | [d1, d2] => { results := [.lit (.bool false)], args := [d1, d2] }
  | _ => none }
def EncodingChecksWrongFalsely : Prop := encodingChecksRow.holds Tryd.pinned (OpenSpec.ofChange encodingChecksWrong)

/-- 'wherrylaw1.DecodeMatches': WHATEVER THE INPUT: true; the input reads as it did. -/
def decodeMatchesSpec : ChangeSpec := { name := "decodeMatches", fn := fun _ => fun
  | [d1, d2] => { results := [.lit (.bool true)], args := [d1, d2] }
  | _ => none }
def decodeMatchesRow : OpenClaim := { program := "ytjhgmempnhjflaadoor", sum := "b930669fbc4a83c602c717a63b8bb9d1496fe631d221f0c5f4089d0596340b2d", func := "wherryman/wherrylaw1.DecodeMatches", spec := "decodeMatches", inPlace := ["internal/bytealg.CountString", "internal/bytealg.IndexByteString", "internal/bytealg.IndexString", "internal/abi.NoEscape", "internal/bytealg.MakeNoZero"], unfollowed := true, recurses := true, named := ["unicode/utf8.first", "unicode/utf8.acceptRanges", "internal/bytealg.MaxLen"], apart := false, laid := [("unicode/utf8.acceptRanges", laid_unicode_utf8_acceptRanges), ("unicode/utf8.first", laid_unicode_utf8_first)] }
def DecodeMatchesSaid : Prop := decodeMatchesRow.holds Tryd.pinned (OpenSpec.ofChange decodeMatchesSpec)

/-- ITS FALSE NEIGHBOUR: 'it returns false'. Refute it at one input. -/
def decodeMatchesWrong : ChangeSpec := { name := "decodeMatches", fn := fun _ => fun
  | [d1, d2] => { results := [.lit (.bool false)], args := [d1, d2] }
  | _ => none }
def DecodeMatchesWrongFalsely : Prop := decodeMatchesRow.holds Tryd.pinned (OpenSpec.ofChange decodeMatchesWrong)

/-- 'wherrylaw1.EncodingMatches': WHATEVER THE INPUT: true; the input reads as it did. -/
def encodingMatchesSpec : ChangeSpec := { name := "encodingMatches", fn := fun _ => fun
  | [d1, d2] => { results := [.lit (.bool true)], args := [d1, d2] }
  | _ => none }
def encodingMatchesRow : OpenClaim := { program := "ytjhgmempnhjflaadoor", sum := "b930669fbc4a83c602c717a63b8bb9d1496fe631d221f0c5f4089d0596340b2d", func := "wherryman/wherrylaw1.EncodingMatches", spec := "encodingMatches", inPlace := ["internal/bytealg.CountString", "internal/bytealg.IndexByteString", "internal/bytealg.IndexString", "internal/abi.NoEscape", "internal/bytealg.MakeNoZero"], unfollowed := true, recurses := true, named := ["unicode/utf8.first", "unicode/utf8.acceptRanges", "internal/bytealg.MaxLen"], apart := false, laid := [("unicode/utf8.acceptRanges", laid_unicode_utf8_acceptRanges), ("unicode/utf8.first", laid_unicode_utf8_first)] }
def EncodingMatchesSaid : Prop := encodingMatchesRow.holds Tryd.pinned (OpenSpec.ofChange encodingMatchesSpec)

/-- ITS FALSE NEIGHBOUR: 'it returns false'. Refute it at one input. -/
def encodingMatchesWrong : ChangeSpec := { name := "encodingMatches", fn := fun _ => fun
  | [d1, d2] => { results := [.lit (.bool false)], args := [d1, d2] }
  | _ => none }
def EncodingMatchesWrongFalsely : Prop := encodingMatchesRow.holds Tryd.pinned (OpenSpec.ofChange encodingMatchesWrong)

/- THE SECOND FORM. 'bulk': how many values and letters a reading holds, each counted each time it is reached (what is shared counts as often as it is met; a slice's spare places count too). A statement '..UptoSaid' is the law's where the arguments, and the package variables that the reading takes, are together of bulk at most 1048576: NARROWER than '..Said'. Prove '..Said' where nothing that the law and all that it calls make is longer than what came in: it says more and counts as full. Else prove '..UptoSaid'. A law counts once. -/
mutual
def uptoBulk {H : Type} : DataW H → Nat
  | .lit (.string bytes) => bytes.length + 1
  | .lit _ => 1
  | .nil => 1
  | .ptr d => uptoBulk d + 1
  | .slice elems spare => uptoBulkAll elems + uptoBulkAll spare + 1
  | .agg parts => uptoBulkAll parts + 1
  | .iface _ d => uptoBulk d + 1
  | .map entries => uptoBulkEntries entries + 1
  | .held _ => 1
def uptoBulkAll {H : Type} : List (DataW H) → Nat
  | [] => 0
  | d :: r => uptoBulk d + uptoBulkAll r
def uptoBulkEntries {H : Type} : List (Lit × DataW H) → Nat
  | [] => 0
  | x :: r => uptoBulkEntry x + uptoBulkEntries r
def uptoBulkEntry {H : Type} : Lit × DataW H → Nat
  | (.string bytes, d) => bytes.length + uptoBulk d + 1
  | (_, d) => uptoBulk d + 1
 end
def uptoSmall : (H : Type) → List (DataW H) → Bool := fun _ ds => decide (uptoBulkAll ds ≤ 1048576)
def OpenSpec.upto (s : _root_.Go.ChangeSpec) : _root_.Go.OpenSpec := { _root_.Go.OpenSpec.ofChange s with cond := some uptoSmall }

/-- 'wherrylaw1.ClockMoves', WHERE WHAT IT READS IS OF BULK AT MOST 1048576: true; the input reads as it did. -/
def clockMovesUptoRow : OpenClaim := { program := "ytjhgmempnhjflaadoor", sum := "b930669fbc4a83c602c717a63b8bb9d1496fe631d221f0c5f4089d0596340b2d", func := "wherryman/wherrylaw1.ClockMoves", spec := "clockMoves", inPlace := ["internal/bytealg.CountString", "internal/bytealg.IndexByteString", "internal/bytealg.IndexString"], named := ["unicode/utf8.first", "unicode/utf8.acceptRanges", "internal/bytealg.MaxLen"], apart := false, laid := [("unicode/utf8.acceptRanges", laid_unicode_utf8_acceptRanges), ("unicode/utf8.first", laid_unicode_utf8_first)], narrowed := true }
def ClockMovesUptoSaid : Prop := clockMovesUptoRow.holds Tryd.pinned (OpenSpec.upto clockMovesSpec)

/-- 'wherrylaw1.TimesAreTruncated', WHERE WHAT IT READS IS OF BULK AT MOST 1048576: true; the input reads as it did. -/
def timesAreTruncatedUptoRow : OpenClaim := { program := "ytjhgmempnhjflaadoor", sum := "b930669fbc4a83c602c717a63b8bb9d1496fe631d221f0c5f4089d0596340b2d", func := "wherryman/wherrylaw1.TimesAreTruncated", spec := "timesAreTruncated", inPlace := ["internal/bytealg.CountString", "internal/bytealg.IndexByteString", "internal/bytealg.IndexString"], named := ["unicode/utf8.first", "unicode/utf8.acceptRanges", "internal/bytealg.MaxLen"], apart := false, laid := [("unicode/utf8.acceptRanges", laid_unicode_utf8_acceptRanges), ("unicode/utf8.first", laid_unicode_utf8_first)], narrowed := true }
def TimesAreTruncatedUptoSaid : Prop := timesAreTruncatedUptoRow.holds Tryd.pinned (OpenSpec.upto timesAreTruncatedSpec)

/-- 'wherrylaw1.NamesRelative', WHERE WHAT IT READS IS OF BULK AT MOST 1048576: true; the input reads as it did. -/
def namesRelativeUptoRow : OpenClaim := { program := "ytjhgmempnhjflaadoor", sum := "b930669fbc4a83c602c717a63b8bb9d1496fe631d221f0c5f4089d0596340b2d", func := "wherryman/wherrylaw1.NamesRelative", spec := "namesRelative", inPlace := ["internal/bytealg.CountString", "internal/bytealg.IndexByteString", "internal/bytealg.IndexString"], unfollowed := true, recurses := true, named := ["unicode/utf8.first", "unicode/utf8.acceptRanges", "internal/bytealg.MaxLen"], apart := false, laid := [("unicode/utf8.acceptRanges", laid_unicode_utf8_acceptRanges), ("unicode/utf8.first", laid_unicode_utf8_first)], narrowed := true }
def NamesRelativeUptoSaid : Prop := namesRelativeUptoRow.holds Tryd.pinned (OpenSpec.upto namesRelativeSpec)

/-- 'wherrylaw1.NamesOrder', WHERE WHAT IT READS IS OF BULK AT MOST 1048576: true; the input reads as it did. -/
def namesOrderUptoRow : OpenClaim := { program := "ytjhgmempnhjflaadoor", sum := "b930669fbc4a83c602c717a63b8bb9d1496fe631d221f0c5f4089d0596340b2d", func := "wherryman/wherrylaw1.NamesOrder", spec := "namesOrder", inPlace := ["internal/bytealg.CountString", "internal/bytealg.IndexByteString", "internal/bytealg.IndexString"], unfollowed := true, recurses := true, named := ["unicode/utf8.first", "unicode/utf8.acceptRanges", "internal/bytealg.MaxLen"], apart := false, laid := [("unicode/utf8.acceptRanges", laid_unicode_utf8_acceptRanges), ("unicode/utf8.first", laid_unicode_utf8_first)], narrowed := true }
def NamesOrderUptoSaid : Prop := namesOrderUptoRow.holds Tryd.pinned (OpenSpec.upto namesOrderSpec)

/-- 'wherrylaw1.FeaturesCheck', WHERE WHAT IT READS IS OF BULK AT MOST 1048576: true; the input reads as it did. -/
def featuresCheckUptoRow : OpenClaim := { program := "ytjhgmempnhjflaadoor", sum := "b930669fbc4a83c602c717a63b8bb9d1496fe631d221f0c5f4089d0596340b2d", func := "wherryman/wherrylaw1.FeaturesCheck", spec := "featuresCheck", inPlace := ["internal/bytealg.CountString", "internal/bytealg.IndexByteString", "internal/bytealg.IndexString"], unfollowed := true, recurses := true, named := ["unicode/utf8.first", "unicode/utf8.acceptRanges", "internal/bytealg.MaxLen"], apart := false, laid := [("unicode/utf8.acceptRanges", laid_unicode_utf8_acceptRanges), ("unicode/utf8.first", laid_unicode_utf8_first)], narrowed := true }
def FeaturesCheckUptoSaid : Prop := featuresCheckUptoRow.holds Tryd.pinned (OpenSpec.upto featuresCheckSpec)

/-- 'wherrylaw1.NamesJoin', WHERE WHAT IT READS IS OF BULK AT MOST 1048576: true; the input reads as it did. -/
def namesJoinUptoRow : OpenClaim := { program := "ytjhgmempnhjflaadoor", sum := "b930669fbc4a83c602c717a63b8bb9d1496fe631d221f0c5f4089d0596340b2d", func := "wherryman/wherrylaw1.NamesJoin", spec := "namesJoin", inPlace := ["internal/bytealg.CountString", "internal/bytealg.IndexByteString", "internal/bytealg.IndexString", "internal/abi.NoEscape", "internal/bytealg.MakeNoZero"], unfollowed := true, recurses := true, named := ["unicode/utf8.first", "unicode/utf8.acceptRanges", "internal/bytealg.MaxLen"], apart := false, laid := [("unicode/utf8.acceptRanges", laid_unicode_utf8_acceptRanges), ("unicode/utf8.first", laid_unicode_utf8_first)], narrowed := true }
def NamesJoinUptoSaid : Prop := namesJoinUptoRow.holds Tryd.pinned (OpenSpec.upto namesJoinSpec)

/-- 'wherrylaw1.NamesClean', WHERE WHAT IT READS IS OF BULK AT MOST 1048576: true; the input reads as it did. -/
def namesCleanUptoRow : OpenClaim := { program := "ytjhgmempnhjflaadoor", sum := "b930669fbc4a83c602c717a63b8bb9d1496fe631d221f0c5f4089d0596340b2d", func := "wherryman/wherrylaw1.NamesClean", spec := "namesClean", inPlace := ["internal/bytealg.CountString", "internal/bytealg.IndexByteString", "internal/bytealg.IndexString", "internal/abi.NoEscape", "internal/bytealg.MakeNoZero"], unfollowed := true, recurses := true, named := ["unicode/utf8.first", "unicode/utf8.acceptRanges", "internal/bytealg.MaxLen"], apart := false, laid := [("unicode/utf8.acceptRanges", laid_unicode_utf8_acceptRanges), ("unicode/utf8.first", laid_unicode_utf8_first)], narrowed := true }
def NamesCleanUptoSaid : Prop := namesCleanUptoRow.holds Tryd.pinned (OpenSpec.upto namesCleanSpec)

/-- 'wherrylaw1.NamesCheck', WHERE WHAT IT READS IS OF BULK AT MOST 1048576: true; the input reads as it did. -/
def namesCheckUptoRow : OpenClaim := { program := "ytjhgmempnhjflaadoor", sum := "b930669fbc4a83c602c717a63b8bb9d1496fe631d221f0c5f4089d0596340b2d", func := "wherryman/wherrylaw1.NamesCheck", spec := "namesCheck", inPlace := ["internal/bytealg.CountString", "internal/bytealg.IndexByteString", "internal/bytealg.IndexString", "internal/abi.NoEscape", "internal/bytealg.MakeNoZero"], unfollowed := true, recurses := true, named := ["unicode/utf8.first", "unicode/utf8.acceptRanges", "internal/bytealg.MaxLen"], apart := false, laid := [("unicode/utf8.acceptRanges", laid_unicode_utf8_acceptRanges), ("unicode/utf8.first", laid_unicode_utf8_first)], narrowed := true }
def NamesCheckUptoSaid : Prop := namesCheckUptoRow.holds Tryd.pinned (OpenSpec.upto namesCheckSpec)

/-- 'wherrylaw1.EncodingIsOneToOne', WHERE WHAT IT READS IS OF BULK AT MOST 1048576: true; the input reads as it did. -/
def encodingIsOneToOneUptoRow : OpenClaim := { program := "ytjhgmempnhjflaadoor", sum := "b930669fbc4a83c602c717a63b8bb9d1496fe631d221f0c5f4089d0596340b2d", func := "wherryman/wherrylaw1.EncodingIsOneToOne", spec := "encodingIsOneToOne", inPlace := ["internal/bytealg.CountString", "internal/bytealg.IndexByteString", "internal/bytealg.IndexString", "internal/abi.NoEscape", "internal/bytealg.MakeNoZero"], named := ["unicode/utf8.first", "unicode/utf8.acceptRanges", "internal/bytealg.MaxLen"], apart := false, laid := [("unicode/utf8.acceptRanges", laid_unicode_utf8_acceptRanges), ("unicode/utf8.first", laid_unicode_utf8_first)], narrowed := true }
def EncodingIsOneToOneUptoSaid : Prop := encodingIsOneToOneUptoRow.holds Tryd.pinned (OpenSpec.upto encodingIsOneToOneSpec)

/-- 'wherrylaw1.EncodingChecks', WHERE WHAT IT READS IS OF BULK AT MOST 1048576: true; the input reads as it did. -/
def encodingChecksUptoRow : OpenClaim := { program := "ytjhgmempnhjflaadoor", sum := "b930669fbc4a83c602c717a63b8bb9d1496fe631d221f0c5f4089d0596340b2d", func := "wherryman/wherrylaw1.EncodingChecks", spec := "encodingChecks", inPlace := ["internal/bytealg.CountString", "internal/bytealg.IndexByteString", "internal/bytealg.IndexString", "internal/abi.NoEscape", "internal/bytealg.MakeNoZero"], named := ["unicode/utf8.first", "unicode/utf8.acceptRanges", "internal/bytealg.MaxLen"], apart := false, laid := [("unicode/utf8.acceptRanges", laid_unicode_utf8_acceptRanges), ("unicode/utf8.first", laid_unicode_utf8_first)], narrowed := true }
def EncodingChecksUptoSaid : Prop := encodingChecksUptoRow.holds Tryd.pinned (OpenSpec.upto encodingChecksSpec)

/-- 'wherrylaw1.DecodeMatches', WHERE WHAT IT READS IS OF BULK AT MOST 1048576: true; the input reads as it did. -/
def decodeMatchesUptoRow : OpenClaim := { program := "ytjhgmempnhjflaadoor", sum := "b930669fbc4a83c602c717a63b8bb9d1496fe631d221f0c5f4089d0596340b2d", func := "wherryman/wherrylaw1.DecodeMatches", spec := "decodeMatches", inPlace := ["internal/bytealg.CountString", "internal/bytealg.IndexByteString", "internal/bytealg.IndexString", "internal/abi.NoEscape", "internal/bytealg.MakeNoZero"], unfollowed := true, recurses := true, named := ["unicode/utf8.first", "unicode/utf8.acceptRanges", "internal/bytealg.MaxLen"], apart := false, laid := [("unicode/utf8.acceptRanges", laid_unicode_utf8_acceptRanges), ("unicode/utf8.first", laid_unicode_utf8_first)], narrowed := true }
def DecodeMatchesUptoSaid : Prop := decodeMatchesUptoRow.holds Tryd.pinned (OpenSpec.upto decodeMatchesSpec)

/-- 'wherrylaw1.EncodingMatches', WHERE WHAT IT READS IS OF BULK AT MOST 1048576: true; the input reads as it did. -/
def encodingMatchesUptoRow : OpenClaim := { program := "ytjhgmempnhjflaadoor", sum := "b930669fbc4a83c602c717a63b8bb9d1496fe631d221f0c5f4089d0596340b2d", func := "wherryman/wherrylaw1.EncodingMatches", spec := "encodingMatches", inPlace := ["internal/bytealg.CountString", "internal/bytealg.IndexByteString", "internal/bytealg.IndexString", "internal/abi.NoEscape", "internal/bytealg.MakeNoZero"], unfollowed := true, recurses := true, named := ["unicode/utf8.first", "unicode/utf8.acceptRanges", "internal/bytealg.MaxLen"], apart := false, laid := [("unicode/utf8.acceptRanges", laid_unicode_utf8_acceptRanges), ("unicode/utf8.first", laid_unicode_utf8_first)], narrowed := true }
def EncodingMatchesUptoSaid : Prop := encodingMatchesUptoRow.holds Tryd.pinned (OpenSpec.upto encodingMatchesSpec)

end Rows
end Go.Proofs.YtjhgmempnhjflaaDoor
