/-
  DERIVED. GIVEN WITH THE SEED: THE CARDS: each row of YtepbchaeeldjmaaDoorRows.lean that lists a variable, with what it lists TIED to the program's text (the seventh form; the later family's looks); each row that meets fmt, with fmt's text TOLD by the authors' own Lean function (tested against real Go, not proved from fmt's source: count such statements apart). THE CARD IS WHAT COUNTS. Prove the row's statement (the work); the ties are given (YtepbchaeeldjmaaDoorTie.lean); close each card by the builder's one call (the guide's Derived/Test/ToyasCard.lean, 'card_holds'). Laid BY PROGRAM, IN A SANDBOX (cutbox-door.mjs). By AI agents, Wed Nov 11 2026. No macro, syntax, notation, axiom, sorry.
-/
import Derived.Test.YtepbchaeeldjmaaDoorRows
import GoSem.ClaimSeven
namespace Go.Proofs.YtepbchaeeldjmaaDoor
namespace Rows

/-- THE TIED CARD OF 'flashcachelaw06.FrameEncode'. -/
def frameEncodeCard : Claim7 := { stood := { row := frameEncodeRow, standIns := [], harness := (true, "74ead1e8df2500228b44ffc102464fae003ae0d9b007a9b5c9ad1dde8ea0c91a"), looks := false }, kinds := [], alts := [], laidByText := true, laidKinds := [.data], laidTests := true, laidLooks := .later }
def FrameEncodeCardSaid : Prop := Claim7.holds Tryd.pinned (.plain (OpenSpec.ofChange frameEncodeSpec)) frameEncodeCard

/-- THE TIED CARD OF 'flashcachelaw06.FrameDecode'. -/
def frameDecodeCard : Claim7 := { stood := { row := frameDecodeRow, standIns := [], harness := (true, "74ead1e8df2500228b44ffc102464fae003ae0d9b007a9b5c9ad1dde8ea0c91a"), looks := false }, kinds := [], alts := [], laidByText := true, laidKinds := [.data], laidTests := true, laidLooks := .later }
def FrameDecodeCardSaid : Prop := Claim7.holds Tryd.pinned (.plain (OpenSpec.ofChange frameDecodeSpec)) frameDecodeCard

/-- THE TIED CARD OF 'flashcachelaw06.FrameOther'. -/
def frameOtherCard : Claim7 := { stood := { row := frameOtherRow, standIns := [], harness := (true, "74ead1e8df2500228b44ffc102464fae003ae0d9b007a9b5c9ad1dde8ea0c91a"), looks := false }, kinds := [], alts := [], laidByText := true, laidKinds := [.data], laidTests := true, laidLooks := .later }
def FrameOtherCardSaid : Prop := Claim7.holds Tryd.pinned (.plain (OpenSpec.ofChange frameOtherSpec)) frameOtherCard

/-- THE TIED CARD OF 'flashcachelaw06.FrameTorn'. -/
def frameTornCard : Claim7 := { stood := { row := frameTornRow, standIns := [], harness := (true, "74ead1e8df2500228b44ffc102464fae003ae0d9b007a9b5c9ad1dde8ea0c91a"), looks := false }, kinds := [], alts := [], laidByText := true, laidKinds := [.data], laidTests := true, laidLooks := .later }
def FrameTornCardSaid : Prop := Claim7.holds Tryd.pinned (.plain (OpenSpec.ofChange frameTornSpec)) frameTornCard

/-- THE TIED CARD OF 'flashcachelaw07.HeaderValid'. -/
def headerValidCard : Claim7 := { stood := { row := headerValidRow, standIns := [], harness := (true, "74ead1e8df2500228b44ffc102464fae003ae0d9b007a9b5c9ad1dde8ea0c91a"), looks := false }, kinds := [], alts := [], laidByText := true, laidKinds := [.data], laidTests := true, laidLooks := .later }
def HeaderValidCardSaid : Prop := Claim7.holds Tryd.pinned (.plain (OpenSpec.ofChange headerValidSpec)) headerValidCard

/-- THE TIED CARD OF 'flashcachelaw07.HeaderEncode'. -/
def headerEncodeCard : Claim7 := { stood := { row := headerEncodeRow, standIns := [], harness := (true, "74ead1e8df2500228b44ffc102464fae003ae0d9b007a9b5c9ad1dde8ea0c91a"), looks := false }, kinds := [], alts := [], laidByText := true, laidKinds := [.data], laidTests := true, laidLooks := .later }
def HeaderEncodeCardSaid : Prop := Claim7.holds Tryd.pinned (.plain (OpenSpec.ofChange headerEncodeSpec)) headerEncodeCard

/-- THE TIED CARD OF 'flashcachelaw07.HeaderDecode'. -/
def headerDecodeCard : Claim7 := { stood := { row := headerDecodeRow, standIns := [], harness := (true, "74ead1e8df2500228b44ffc102464fae003ae0d9b007a9b5c9ad1dde8ea0c91a"), looks := false }, kinds := [], alts := [], laidByText := true, laidKinds := [.data], laidTests := true, laidLooks := .later }
def HeaderDecodeCardSaid : Prop := Claim7.holds Tryd.pinned (.plain (OpenSpec.ofChange headerDecodeSpec)) headerDecodeCard

/-- THE TIED CARD OF 'flashcachelaw07.HeaderFrame'. -/
def headerFrameCard : Claim7 := { stood := { row := headerFrameRow, standIns := [], harness := (true, "74ead1e8df2500228b44ffc102464fae003ae0d9b007a9b5c9ad1dde8ea0c91a"), looks := false }, kinds := [], alts := [], laidByText := true, laidKinds := [.data], laidTests := true, laidLooks := .later }
def HeaderFrameCardSaid : Prop := Claim7.holds Tryd.pinned (.plain (OpenSpec.ofChange headerFrameSpec)) headerFrameCard

/-- THE TIED CARD OF 'flashcachelaw07.HeaderOther'. -/
def headerOtherCard : Claim7 := { stood := { row := headerOtherRow, standIns := [], harness := (true, "74ead1e8df2500228b44ffc102464fae003ae0d9b007a9b5c9ad1dde8ea0c91a"), looks := false }, kinds := [], alts := [], laidByText := true, laidKinds := [.data], laidTests := true, laidLooks := .later }
def HeaderOtherCardSaid : Prop := Claim7.holds Tryd.pinned (.plain (OpenSpec.ofChange headerOtherSpec)) headerOtherCard

/-- THE SECOND FORM's CARD OF 'flashcachelaw06.FrameEncode'. -/
def frameEncodeUptoCard : Claim7 := { stood := { row := frameEncodeUptoRow, standIns := [], harness := (true, "74ead1e8df2500228b44ffc102464fae003ae0d9b007a9b5c9ad1dde8ea0c91a"), looks := false }, kinds := [], alts := [], laidByText := true, laidKinds := [.data], laidTests := true, laidLooks := .later }
def FrameEncodeUptoCardSaid : Prop := Claim7.holds Tryd.pinned (.plain (OpenSpec.upto frameEncodeSpec)) frameEncodeUptoCard

/-- THE SECOND FORM's CARD OF 'flashcachelaw06.FrameDecode'. -/
def frameDecodeUptoCard : Claim7 := { stood := { row := frameDecodeUptoRow, standIns := [], harness := (true, "74ead1e8df2500228b44ffc102464fae003ae0d9b007a9b5c9ad1dde8ea0c91a"), looks := false }, kinds := [], alts := [], laidByText := true, laidKinds := [.data], laidTests := true, laidLooks := .later }
def FrameDecodeUptoCardSaid : Prop := Claim7.holds Tryd.pinned (.plain (OpenSpec.upto frameDecodeSpec)) frameDecodeUptoCard

/-- THE SECOND FORM's CARD OF 'flashcachelaw06.FrameOther'. -/
def frameOtherUptoCard : Claim7 := { stood := { row := frameOtherUptoRow, standIns := [], harness := (true, "74ead1e8df2500228b44ffc102464fae003ae0d9b007a9b5c9ad1dde8ea0c91a"), looks := false }, kinds := [], alts := [], laidByText := true, laidKinds := [.data], laidTests := true, laidLooks := .later }
def FrameOtherUptoCardSaid : Prop := Claim7.holds Tryd.pinned (.plain (OpenSpec.upto frameOtherSpec)) frameOtherUptoCard

/-- THE SECOND FORM's CARD OF 'flashcachelaw06.FrameTorn'. -/
def frameTornUptoCard : Claim7 := { stood := { row := frameTornUptoRow, standIns := [], harness := (true, "74ead1e8df2500228b44ffc102464fae003ae0d9b007a9b5c9ad1dde8ea0c91a"), looks := false }, kinds := [], alts := [], laidByText := true, laidKinds := [.data], laidTests := true, laidLooks := .later }
def FrameTornUptoCardSaid : Prop := Claim7.holds Tryd.pinned (.plain (OpenSpec.upto frameTornSpec)) frameTornUptoCard

/-- THE SECOND FORM's CARD OF 'flashcachelaw07.HeaderValid'. -/
def headerValidUptoCard : Claim7 := { stood := { row := headerValidUptoRow, standIns := [], harness := (true, "74ead1e8df2500228b44ffc102464fae003ae0d9b007a9b5c9ad1dde8ea0c91a"), looks := false }, kinds := [], alts := [], laidByText := true, laidKinds := [.data], laidTests := true, laidLooks := .later }
def HeaderValidUptoCardSaid : Prop := Claim7.holds Tryd.pinned (.plain (OpenSpec.upto headerValidSpec)) headerValidUptoCard

/-- THE SECOND FORM's CARD OF 'flashcachelaw07.HeaderEncode'. -/
def headerEncodeUptoCard : Claim7 := { stood := { row := headerEncodeUptoRow, standIns := [], harness := (true, "74ead1e8df2500228b44ffc102464fae003ae0d9b007a9b5c9ad1dde8ea0c91a"), looks := false }, kinds := [], alts := [], laidByText := true, laidKinds := [.data], laidTests := true, laidLooks := .later }
def HeaderEncodeUptoCardSaid : Prop := Claim7.holds Tryd.pinned (.plain (OpenSpec.upto headerEncodeSpec)) headerEncodeUptoCard

/-- THE SECOND FORM's CARD OF 'flashcachelaw07.HeaderDecode'. -/
def headerDecodeUptoCard : Claim7 := { stood := { row := headerDecodeUptoRow, standIns := [], harness := (true, "74ead1e8df2500228b44ffc102464fae003ae0d9b007a9b5c9ad1dde8ea0c91a"), looks := false }, kinds := [], alts := [], laidByText := true, laidKinds := [.data], laidTests := true, laidLooks := .later }
def HeaderDecodeUptoCardSaid : Prop := Claim7.holds Tryd.pinned (.plain (OpenSpec.upto headerDecodeSpec)) headerDecodeUptoCard

/-- THE SECOND FORM's CARD OF 'flashcachelaw07.HeaderFrame'. -/
def headerFrameUptoCard : Claim7 := { stood := { row := headerFrameUptoRow, standIns := [], harness := (true, "74ead1e8df2500228b44ffc102464fae003ae0d9b007a9b5c9ad1dde8ea0c91a"), looks := false }, kinds := [], alts := [], laidByText := true, laidKinds := [.data], laidTests := true, laidLooks := .later }
def HeaderFrameUptoCardSaid : Prop := Claim7.holds Tryd.pinned (.plain (OpenSpec.upto headerFrameSpec)) headerFrameUptoCard

/-- THE SECOND FORM's CARD OF 'flashcachelaw07.HeaderOther'. -/
def headerOtherUptoCard : Claim7 := { stood := { row := headerOtherUptoRow, standIns := [], harness := (true, "74ead1e8df2500228b44ffc102464fae003ae0d9b007a9b5c9ad1dde8ea0c91a"), looks := false }, kinds := [], alts := [], laidByText := true, laidKinds := [.data], laidTests := true, laidLooks := .later }
def HeaderOtherUptoCardSaid : Prop := Claim7.holds Tryd.pinned (.plain (OpenSpec.upto headerOtherSpec)) headerOtherUptoCard
end Rows
end Go.Proofs.YtepbchaeeldjmaaDoor
