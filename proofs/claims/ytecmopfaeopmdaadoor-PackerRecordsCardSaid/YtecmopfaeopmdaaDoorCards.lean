/-
  DERIVED. GIVEN WITH THE SEED: THE CARDS: each row of YtecmopfaeopmdaaDoorRows.lean that lists a variable, with what it lists TIED to the program's text (the seventh form; the later family's looks); each row that meets fmt, with fmt's text TOLD by the authors' own Lean function (tested against real Go, not proved from fmt's source: count such statements apart). THE CARD IS WHAT COUNTS. Prove the row's statement (the work); the ties are given (YtecmopfaeopmdaaDoorTie.lean); close each card by the builder's one call (the guide's Derived/Test/ToyasCard.lean, 'card_holds'). Laid BY PROGRAM, IN A SANDBOX (cutbox-door.mjs). By AI agents, Wed Nov 11 2026. No macro, syntax, notation, axiom, sorry.
-/
import Derived.Test.YtecmopfaeopmdaaDoorRows
import GoSem.ClaimSeven
namespace Go.Proofs.YtecmopfaeopmdaaDoor
namespace Rows

/-- THE TIED CARD OF 'flashcachelaw13.PackerFull'. -/
def packerFullCard : Claim7 := { stood := { row := packerFullRow, standIns := [], harness := (true, "40f1d2c1e9924ad641d4fae5d401fe04f43f3a7eb3b3235f81762331fa613247"), looks := false }, kinds := [], alts := [], laidByText := true, laidKinds := [.data], laidTests := true, laidLooks := .later }
def PackerFullCardSaid : Prop := Claim7.holds Tryd.pinned (.plain (OpenSpec.ofChange packerFullSpec)) packerFullCard

/-- THE TIED CARD OF 'flashcachelaw13.PackerTakes'. -/
def packerTakesCard : Claim7 := { stood := { row := packerTakesRow, standIns := [], harness := (true, "40f1d2c1e9924ad641d4fae5d401fe04f43f3a7eb3b3235f81762331fa613247"), looks := false }, kinds := [], alts := [], laidByText := true, laidKinds := [.data], laidTests := true, laidLooks := .later }
def PackerTakesCardSaid : Prop := Claim7.holds Tryd.pinned (.plain (OpenSpec.ofChange packerTakesSpec)) packerTakesCard

/-- THE TIED CARD OF 'flashcachelaw13.PackerScript'. -/
def packerScriptCard : Claim7 := { stood := { row := packerScriptRow, standIns := [], harness := (true, "40f1d2c1e9924ad641d4fae5d401fe04f43f3a7eb3b3235f81762331fa613247"), looks := false }, kinds := [], alts := [], laidByText := true, laidKinds := [.data], laidTests := true, laidLooks := .later }
def PackerScriptCardSaid : Prop := Claim7.holds Tryd.pinned (.plain (OpenSpec.ofChange packerScriptSpec)) packerScriptCard

/-- THE TIED CARD OF 'flashcachelaw13.PackerRecords'. -/
def packerRecordsCard : Claim7 := { stood := { row := packerRecordsRow, standIns := [], harness := (true, "40f1d2c1e9924ad641d4fae5d401fe04f43f3a7eb3b3235f81762331fa613247"), looks := false }, kinds := [], alts := [], laidByText := true, laidKinds := [.data], laidTests := true, laidLooks := .later }
def PackerRecordsCardSaid : Prop := Claim7.holds Tryd.pinned (.plain (OpenSpec.ofChange packerRecordsSpec)) packerRecordsCard

/-- THE TIED CARD OF 'flashcachelaw13.PackerNone'. -/
def packerNoneCard : Claim7 := { stood := { row := packerNoneRow, standIns := [], harness := (true, "40f1d2c1e9924ad641d4fae5d401fe04f43f3a7eb3b3235f81762331fa613247"), looks := false }, kinds := [], alts := [], laidByText := true, laidKinds := [.data], laidTests := true, laidLooks := .later }
def PackerNoneCardSaid : Prop := Claim7.holds Tryd.pinned (.plain (OpenSpec.ofChange packerNoneSpec)) packerNoneCard

/-- THE SECOND FORM's CARD OF 'flashcachelaw13.PackerFull'. -/
def packerFullUptoCard : Claim7 := { stood := { row := packerFullUptoRow, standIns := [], harness := (true, "40f1d2c1e9924ad641d4fae5d401fe04f43f3a7eb3b3235f81762331fa613247"), looks := false }, kinds := [], alts := [], laidByText := true, laidKinds := [.data], laidTests := true, laidLooks := .later }
def PackerFullUptoCardSaid : Prop := Claim7.holds Tryd.pinned (.plain (OpenSpec.upto packerFullSpec)) packerFullUptoCard

/-- THE SECOND FORM's CARD OF 'flashcachelaw13.PackerTakes'. -/
def packerTakesUptoCard : Claim7 := { stood := { row := packerTakesUptoRow, standIns := [], harness := (true, "40f1d2c1e9924ad641d4fae5d401fe04f43f3a7eb3b3235f81762331fa613247"), looks := false }, kinds := [], alts := [], laidByText := true, laidKinds := [.data], laidTests := true, laidLooks := .later }
def PackerTakesUptoCardSaid : Prop := Claim7.holds Tryd.pinned (.plain (OpenSpec.upto packerTakesSpec)) packerTakesUptoCard

/-- THE SECOND FORM's CARD OF 'flashcachelaw13.PackerScript'. -/
def packerScriptUptoCard : Claim7 := { stood := { row := packerScriptUptoRow, standIns := [], harness := (true, "40f1d2c1e9924ad641d4fae5d401fe04f43f3a7eb3b3235f81762331fa613247"), looks := false }, kinds := [], alts := [], laidByText := true, laidKinds := [.data], laidTests := true, laidLooks := .later }
def PackerScriptUptoCardSaid : Prop := Claim7.holds Tryd.pinned (.plain (OpenSpec.upto packerScriptSpec)) packerScriptUptoCard

/-- THE SECOND FORM's CARD OF 'flashcachelaw13.PackerRecords'. -/
def packerRecordsUptoCard : Claim7 := { stood := { row := packerRecordsUptoRow, standIns := [], harness := (true, "40f1d2c1e9924ad641d4fae5d401fe04f43f3a7eb3b3235f81762331fa613247"), looks := false }, kinds := [], alts := [], laidByText := true, laidKinds := [.data], laidTests := true, laidLooks := .later }
def PackerRecordsUptoCardSaid : Prop := Claim7.holds Tryd.pinned (.plain (OpenSpec.upto packerRecordsSpec)) packerRecordsUptoCard

/-- THE SECOND FORM's CARD OF 'flashcachelaw13.PackerNone'. -/
def packerNoneUptoCard : Claim7 := { stood := { row := packerNoneUptoRow, standIns := [], harness := (true, "40f1d2c1e9924ad641d4fae5d401fe04f43f3a7eb3b3235f81762331fa613247"), looks := false }, kinds := [], alts := [], laidByText := true, laidKinds := [.data], laidTests := true, laidLooks := .later }
def PackerNoneUptoCardSaid : Prop := Claim7.holds Tryd.pinned (.plain (OpenSpec.upto packerNoneSpec)) packerNoneUptoCard
end Rows
end Go.Proofs.YtecmopfaeopmdaaDoor
