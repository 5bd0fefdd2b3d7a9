/-
  DERIVED. GIVEN WITH THE SEED: THE CARDS: each row of YtcaliolcmooooaaDoorRows.lean that lists a variable, with what it lists TIED to the program's text (the seventh form; the later family's looks); each row that meets fmt, with fmt's text TOLD by the authors' own Lean function (tested against real Go, not proved from fmt's source: count such statements apart). THE CARD IS WHAT COUNTS. Prove the row's statement (the work); the ties are given (YtcaliolcmooooaaDoorTie.lean); close each card by the builder's one call (the guide's Derived/Test/ToyasCard.lean, 'card_holds'). Laid BY PROGRAM, IN A SANDBOX (cutbox-door.mjs). By AI agents, Wed Nov 11 2026. No macro, syntax, notation, axiom, sorry.
-/
import Derived.Test.YtcaliolcmooooaaDoorRows
import GoSem.ClaimSeven
namespace Go.Proofs.YtcaliolcmooooaaDoor
namespace Rows

/-- THE TIED CARD OF 'flashcachelaw05.RecordEncode'. -/
def recordEncodeCard : Claim7 := { stood := { row := recordEncodeRow, standIns := [], harness := (true, "8160ad0f0b2600a3a22a90da49abe5a335d64cd04089dc5cf3405ad1bd20cce7"), looks := false }, kinds := [], alts := [], laidByText := true, laidKinds := [.data], laidTests := true, laidLooks := .later }
def RecordEncodeCardSaid : Prop := Claim7.holds Tryd.pinned (.plain (OpenSpec.ofChange recordEncodeSpec)) recordEncodeCard

/-- THE TIED CARD OF 'flashcachelaw05.RecordDecode'. -/
def recordDecodeCard : Claim7 := { stood := { row := recordDecodeRow, standIns := [], harness := (true, "8160ad0f0b2600a3a22a90da49abe5a335d64cd04089dc5cf3405ad1bd20cce7"), looks := false }, kinds := [], alts := [], laidByText := true, laidKinds := [.data], laidTests := true, laidLooks := .later }
def RecordDecodeCardSaid : Prop := Claim7.holds Tryd.pinned (.plain (OpenSpec.ofChange recordDecodeSpec)) recordDecodeCard

/-- THE TIED CARD OF 'flashcachelaw05.RecordCut'. -/
def recordCutCard : Claim7 := { stood := { row := recordCutRow, standIns := [], harness := (true, "8160ad0f0b2600a3a22a90da49abe5a335d64cd04089dc5cf3405ad1bd20cce7"), looks := false }, kinds := [], alts := [], laidByText := true, laidKinds := [.data], laidTests := true, laidLooks := .later }
def RecordCutCardSaid : Prop := Claim7.holds Tryd.pinned (.plain (OpenSpec.ofChange recordCutSpec)) recordCutCard

/-- THE TIED CARD OF 'flashcachelaw05.RecordLengths'. -/
def recordLengthsCard : Claim7 := { stood := { row := recordLengthsRow, standIns := [], harness := (true, "8160ad0f0b2600a3a22a90da49abe5a335d64cd04089dc5cf3405ad1bd20cce7"), looks := false }, kinds := [], alts := [], laidByText := true, laidKinds := [.data], laidTests := true, laidLooks := .later }
def RecordLengthsCardSaid : Prop := Claim7.holds Tryd.pinned (.plain (OpenSpec.ofChange recordLengthsSpec)) recordLengthsCard

/-- THE TIED CARD OF 'flashcachelaw05.RecordApart'. -/
def recordApartCard : Claim7 := { stood := { row := recordApartRow, standIns := [], harness := (true, "8160ad0f0b2600a3a22a90da49abe5a335d64cd04089dc5cf3405ad1bd20cce7"), looks := false }, kinds := [], alts := [], laidByText := true, laidKinds := [.data], laidTests := true, laidLooks := .later }
def RecordApartCardSaid : Prop := Claim7.holds Tryd.pinned (.plain (OpenSpec.ofChange recordApartSpec)) recordApartCard

/-- THE TIED CARD OF 'flashcachelaw05.RecordCheck'. -/
def recordCheckCard : Claim7 := { stood := { row := recordCheckRow, standIns := [], harness := (true, "8160ad0f0b2600a3a22a90da49abe5a335d64cd04089dc5cf3405ad1bd20cce7"), looks := false }, kinds := [], alts := [], laidByText := true, laidKinds := [.data], laidTests := true, laidLooks := .later }
def RecordCheckCardSaid : Prop := Claim7.holds Tryd.pinned (.plain (OpenSpec.ofChange recordCheckSpec)) recordCheckCard

/-- THE TIED CARD OF 'flashcachelaw05.RecordRound'. -/
def recordRoundCard : Claim7 := { stood := { row := recordRoundRow, standIns := [], harness := (true, "8160ad0f0b2600a3a22a90da49abe5a335d64cd04089dc5cf3405ad1bd20cce7"), looks := false }, kinds := [], alts := [], laidByText := true, laidKinds := [.data], laidTests := true, laidLooks := .later }
def RecordRoundCardSaid : Prop := Claim7.holds Tryd.pinned (.plain (OpenSpec.ofChange recordRoundSpec)) recordRoundCard

/-- THE SECOND FORM's CARD OF 'flashcachelaw05.RecordEncode'. -/
def recordEncodeUptoCard : Claim7 := { stood := { row := recordEncodeUptoRow, standIns := [], harness := (true, "8160ad0f0b2600a3a22a90da49abe5a335d64cd04089dc5cf3405ad1bd20cce7"), looks := false }, kinds := [], alts := [], laidByText := true, laidKinds := [.data], laidTests := true, laidLooks := .later }
def RecordEncodeUptoCardSaid : Prop := Claim7.holds Tryd.pinned (.plain (OpenSpec.upto recordEncodeSpec)) recordEncodeUptoCard

/-- THE SECOND FORM's CARD OF 'flashcachelaw05.RecordDecode'. -/
def recordDecodeUptoCard : Claim7 := { stood := { row := recordDecodeUptoRow, standIns := [], harness := (true, "8160ad0f0b2600a3a22a90da49abe5a335d64cd04089dc5cf3405ad1bd20cce7"), looks := false }, kinds := [], alts := [], laidByText := true, laidKinds := [.data], laidTests := true, laidLooks := .later }
def RecordDecodeUptoCardSaid : Prop := Claim7.holds Tryd.pinned (.plain (OpenSpec.upto recordDecodeSpec)) recordDecodeUptoCard

/-- THE SECOND FORM's CARD OF 'flashcachelaw05.RecordCut'. -/
def recordCutUptoCard : Claim7 := { stood := { row := recordCutUptoRow, standIns := [], harness := (true, "8160ad0f0b2600a3a22a90da49abe5a335d64cd04089dc5cf3405ad1bd20cce7"), looks := false }, kinds := [], alts := [], laidByText := true, laidKinds := [.data], laidTests := true, laidLooks := .later }
def RecordCutUptoCardSaid : Prop := Claim7.holds Tryd.pinned (.plain (OpenSpec.upto recordCutSpec)) recordCutUptoCard

/-- THE SECOND FORM's CARD OF 'flashcachelaw05.RecordLengths'. -/
def recordLengthsUptoCard : Claim7 := { stood := { row := recordLengthsUptoRow, standIns := [], harness := (true, "8160ad0f0b2600a3a22a90da49abe5a335d64cd04089dc5cf3405ad1bd20cce7"), looks := false }, kinds := [], alts := [], laidByText := true, laidKinds := [.data], laidTests := true, laidLooks := .later }
def RecordLengthsUptoCardSaid : Prop := Claim7.holds Tryd.pinned (.plain (OpenSpec.upto recordLengthsSpec)) recordLengthsUptoCard

/-- THE SECOND FORM's CARD OF 'flashcachelaw05.RecordApart'. -/
def recordApartUptoCard : Claim7 := { stood := { row := recordApartUptoRow, standIns := [], harness := (true, "8160ad0f0b2600a3a22a90da49abe5a335d64cd04089dc5cf3405ad1bd20cce7"), looks := false }, kinds := [], alts := [], laidByText := true, laidKinds := [.data], laidTests := true, laidLooks := .later }
def RecordApartUptoCardSaid : Prop := Claim7.holds Tryd.pinned (.plain (OpenSpec.upto recordApartSpec)) recordApartUptoCard

/-- THE SECOND FORM's CARD OF 'flashcachelaw05.RecordCheck'. -/
def recordCheckUptoCard : Claim7 := { stood := { row := recordCheckUptoRow, standIns := [], harness := (true, "8160ad0f0b2600a3a22a90da49abe5a335d64cd04089dc5cf3405ad1bd20cce7"), looks := false }, kinds := [], alts := [], laidByText := true, laidKinds := [.data], laidTests := true, laidLooks := .later }
def RecordCheckUptoCardSaid : Prop := Claim7.holds Tryd.pinned (.plain (OpenSpec.upto recordCheckSpec)) recordCheckUptoCard

/-- THE SECOND FORM's CARD OF 'flashcachelaw05.RecordRound'. -/
def recordRoundUptoCard : Claim7 := { stood := { row := recordRoundUptoRow, standIns := [], harness := (true, "8160ad0f0b2600a3a22a90da49abe5a335d64cd04089dc5cf3405ad1bd20cce7"), looks := false }, kinds := [], alts := [], laidByText := true, laidKinds := [.data], laidTests := true, laidLooks := .later }
def RecordRoundUptoCardSaid : Prop := Claim7.holds Tryd.pinned (.plain (OpenSpec.upto recordRoundSpec)) recordRoundUptoCard
end Rows
end Go.Proofs.YtcaliolcmooooaaDoor
