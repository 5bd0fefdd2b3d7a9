/-
  DERIVED. GIVEN WITH THE SEED: THE CARDS: each row of YtmbelomekihdkaaDoorRows.lean that lists a variable, with what it lists TIED to the program's text (the seventh form; the later family's looks); each row that meets fmt, with fmt's text TOLD by the authors' own Lean function (tested against real Go, not proved from fmt's source: count such statements apart). THE CARD IS WHAT COUNTS. Prove the row's statement (the work); the ties are given (YtmbelomekihdkaaDoorTie.lean); close each card by the builder's one call (the guide's Derived/Test/ToyasCard.lean, 'card_holds'). Laid BY PROGRAM, IN A SANDBOX (cutbox-door.mjs). By AI agents, Wed Nov 11 2026. No macro, syntax, notation, axiom, sorry.
-/
import Derived.Test.YtmbelomekihdkaaDoorRows
import GoSem.ClaimSeven
namespace Go.Proofs.YtmbelomekihdkaaDoor
namespace Rows

/-- THE TIED CARD OF 'flashcachelaw01.CrcSum'. -/
def crcSumCard : Claim7 := { stood := { row := crcSumRow, standIns := [], harness := (true, "18c0b56823abebb08d78287989aad87b6c982e96658af1709adceae0da7e96f3"), looks := false }, kinds := [], alts := [], laidByText := true, laidKinds := [.data], laidTests := true, laidLooks := .later }
def CrcSumCardSaid : Prop := Claim7.holds Tryd.pinned (.plain (OpenSpec.ofChange crcSumSpec)) crcSumCard

/-- THE TIED CARD OF 'flashcachelaw01.CrcParts'. -/
def crcPartsCard : Claim7 := { stood := { row := crcPartsRow, standIns := [], harness := (true, "18c0b56823abebb08d78287989aad87b6c982e96658af1709adceae0da7e96f3"), looks := false }, kinds := [], alts := [], laidByText := true, laidKinds := [.data], laidTests := true, laidLooks := .later }
def CrcPartsCardSaid : Prop := Claim7.holds Tryd.pinned (.plain (OpenSpec.ofChange crcPartsSpec)) crcPartsCard

/-- THE TIED CARD OF 'flashcachelaw01.CrcBurst'. -/
def crcBurstCard : Claim7 := { stood := { row := crcBurstRow, standIns := [], harness := (true, "18c0b56823abebb08d78287989aad87b6c982e96658af1709adceae0da7e96f3"), looks := false }, kinds := [], alts := [], laidByText := true, laidKinds := [.data], laidTests := true, laidLooks := .later }
def CrcBurstCardSaid : Prop := Claim7.holds Tryd.pinned (.plain (OpenSpec.ofChange crcBurstSpec)) crcBurstCard

/-- THE TIED CARD OF 'flashcachelaw01.CrcCombine'. -/
def crcCombineCard : Claim7 := { stood := { row := crcCombineRow, standIns := [], harness := (true, "18c0b56823abebb08d78287989aad87b6c982e96658af1709adceae0da7e96f3"), looks := false }, kinds := [], alts := [], laidByText := true, laidKinds := [.data], laidTests := true, laidLooks := .later }
def CrcCombineCardSaid : Prop := Claim7.holds Tryd.pinned (.plain (OpenSpec.ofChange crcCombineSpec)) crcCombineCard

/-- THE TIED CARD OF 'flashcachelaw01.CrcLong'. -/
def crcLongCard : Claim7 := { stood := { row := crcLongRow, standIns := [], harness := (true, "18c0b56823abebb08d78287989aad87b6c982e96658af1709adceae0da7e96f3"), looks := false }, kinds := [], alts := [], laidByText := true, laidKinds := [.data], laidTests := true, laidLooks := .later }
def CrcLongCardSaid : Prop := Claim7.holds Tryd.pinned (.plain (OpenSpec.ofChange crcLongSpec)) crcLongCard

/-- THE SECOND FORM's CARD OF 'flashcachelaw01.CrcSum'. -/
def crcSumUptoCard : Claim7 := { stood := { row := crcSumUptoRow, standIns := [], harness := (true, "18c0b56823abebb08d78287989aad87b6c982e96658af1709adceae0da7e96f3"), looks := false }, kinds := [], alts := [], laidByText := true, laidKinds := [.data], laidTests := true, laidLooks := .later }
def CrcSumUptoCardSaid : Prop := Claim7.holds Tryd.pinned (.plain (OpenSpec.upto crcSumSpec)) crcSumUptoCard

/-- THE SECOND FORM's CARD OF 'flashcachelaw01.CrcParts'. -/
def crcPartsUptoCard : Claim7 := { stood := { row := crcPartsUptoRow, standIns := [], harness := (true, "18c0b56823abebb08d78287989aad87b6c982e96658af1709adceae0da7e96f3"), looks := false }, kinds := [], alts := [], laidByText := true, laidKinds := [.data], laidTests := true, laidLooks := .later }
def CrcPartsUptoCardSaid : Prop := Claim7.holds Tryd.pinned (.plain (OpenSpec.upto crcPartsSpec)) crcPartsUptoCard

/-- THE SECOND FORM's CARD OF 'flashcachelaw01.CrcBurst'. -/
def crcBurstUptoCard : Claim7 := { stood := { row := crcBurstUptoRow, standIns := [], harness := (true, "18c0b56823abebb08d78287989aad87b6c982e96658af1709adceae0da7e96f3"), looks := false }, kinds := [], alts := [], laidByText := true, laidKinds := [.data], laidTests := true, laidLooks := .later }
def CrcBurstUptoCardSaid : Prop := Claim7.holds Tryd.pinned (.plain (OpenSpec.upto crcBurstSpec)) crcBurstUptoCard

/-- THE SECOND FORM's CARD OF 'flashcachelaw01.CrcCombine'. -/
def crcCombineUptoCard : Claim7 := { stood := { row := crcCombineUptoRow, standIns := [], harness := (true, "18c0b56823abebb08d78287989aad87b6c982e96658af1709adceae0da7e96f3"), looks := false }, kinds := [], alts := [], laidByText := true, laidKinds := [.data], laidTests := true, laidLooks := .later }
def CrcCombineUptoCardSaid : Prop := Claim7.holds Tryd.pinned (.plain (OpenSpec.upto crcCombineSpec)) crcCombineUptoCard

/-- THE SECOND FORM's CARD OF 'flashcachelaw01.CrcLong'. -/
def crcLongUptoCard : Claim7 := { stood := { row := crcLongUptoRow, standIns := [], harness := (true, "18c0b56823abebb08d78287989aad87b6c982e96658af1709adceae0da7e96f3"), looks := false }, kinds := [], alts := [], laidByText := true, laidKinds := [.data], laidTests := true, laidLooks := .later }
def CrcLongUptoCardSaid : Prop := Claim7.holds Tryd.pinned (.plain (OpenSpec.upto crcLongSpec)) crcLongUptoCard
end Rows
end Go.Proofs.YtmbelomekihdkaaDoor
