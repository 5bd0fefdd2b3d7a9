/-
  DERIVED. GIVEN WITH THE SEED: THE CARDS: each row of YtmhkhjcpicihmaaDoorRows.lean that lists a variable, with what it lists TIED to the program's text (the seventh form; the later family's looks); each row that meets fmt, with fmt's text TOLD by the authors' own Lean function (tested against real Go, not proved from fmt's source: count such statements apart). THE CARD IS WHAT COUNTS. Prove the row's statement (the work); the ties are given (YtmhkhjcpicihmaaDoorTie.lean); close each card by the builder's one call (the guide's Derived/Test/ToyasCard.lean, 'card_holds'). Laid BY PROGRAM, IN A SANDBOX (cutbox-door.mjs). By AI agents, Wed Nov 11 2026. No macro, syntax, notation, axiom, sorry.
-/
import Derived.Test.YtmhkhjcpicihmaaDoorRows
import GoSem.ClaimSeven
namespace Go.Proofs.YtmhkhjcpicihmaaDoor
namespace Rows

/-- THE TIED CARD OF 'flashcachelaw20.AdmitRecord'. -/
def admitRecordCard : Claim7 := { stood := { row := admitRecordRow, standIns := [], harness := (true, "88a0da88ea3e6b35383e6a7ebf0c6496a82ab71e617f7e94f7fdd3293a1b7d64"), looks := false }, kinds := [], alts := [], laidByText := true, laidKinds := [.data], laidTests := true, laidLooks := .later }
def AdmitRecordCardSaid : Prop := Claim7.holds Tryd.pinned (.plain (OpenSpec.ofChange admitRecordSpec)) admitRecordCard

/-- THE SECOND FORM's CARD OF 'flashcachelaw20.AdmitRecord'. -/
def admitRecordUptoCard : Claim7 := { stood := { row := admitRecordUptoRow, standIns := [], harness := (true, "88a0da88ea3e6b35383e6a7ebf0c6496a82ab71e617f7e94f7fdd3293a1b7d64"), looks := false }, kinds := [], alts := [], laidByText := true, laidKinds := [.data], laidTests := true, laidLooks := .later }
def AdmitRecordUptoCardSaid : Prop := Claim7.holds Tryd.pinned (.plain (OpenSpec.upto admitRecordSpec)) admitRecordUptoCard
end Rows
end Go.Proofs.YtmhkhjcpicihmaaDoor
